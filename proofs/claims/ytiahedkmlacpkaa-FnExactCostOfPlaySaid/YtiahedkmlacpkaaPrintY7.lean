-- written by this session's own driver (wip/gen.py) with the kit's print and contracts of our own
import Derived.Test.YtiahedkmlacpkaaPrintY0
import Derived.Test.YtiahedkmlacpkaaPrintY1
import Derived.Test.YtiahedkmlacpkaaPrintY6
import Derived.Test.YtiahedkmlacpkaaPrintY13
namespace Go.Proofs.Ytiahedkmlacpkaa.PrintY
open Go.RowKit Go.Proofs.YtiahedkmlacpkaaLib Go.Proofs.YtiahedkmlacpkaaW.PrintWords Go.Proofs.YtiahedkmlacpkaaW.PrintLast Go.Proofs.YtiahedkmlacpkaaW.PrintMore
attribute [local go_sem] max2_int min2_int max_two min_two max_three min_three max_four min_four   -- for this text's walks alone
set_option linter.unusedVariables false
set_option linter.unusedSimpArgs false

/-! ### spec_flPlay: function 37 -/
def spec_flPlay.l0 : Nat → Int → Int → Int → Int → List (S56) → Option ((List (S56)))
  | 0, _, _, _, _, _ => none
  | k + 1, x0, x2, x7, x8, x9 => if x7 < x8 then ((spec_flGood.f k x0 (wrap64 (x8 - x7))).bind fun t123 => (if 0 < (t123.length : Int) then (if x9.length < 8796093022208 then ((some (x9 ++ [(⟨wrap64 (x7 + (rd t123 0)), decide ((wrap64 (x7 + (rd t123 0))) > x2)⟩ : S56)] : List (S56))).bind fun y127 => (if (wrap64 (x7 + (rd t123 0))) > x2 then (spec_flPlay.l0 k (wrap64 (x0 - 1)) x2 x7 (wrap64 ((wrap64 (x7 + (rd t123 0))) - 1)) y127) else (spec_flPlay.l0 k x0 x2 (wrap64 (x7 + (rd t123 0))) x8 y127))) else (none)) else (none))) else (some x9)
def spec_flPlay.f (k : Nat) (a0 : Int) (a1 : Int) (a2 : Int) : Option ((List (S56))) := spec_flPlay.l0 k a0 a2 0 a1 ([] : List (S56))
theorem spec_flPlay.mono_l : ∀ k, (∀ y0 y1 y2 y3 y4, LeO (spec_flPlay.l0 k y0 y1 y2 y3 y4) (spec_flPlay.l0 (k + 1) y0 y1 y2 y3 y4))
  | 0 => fun _ _ _ _ _ r h => by simp [spec_flPlay.l0] at h
  | k + 1 => by
    have ih0 := spec_flPlay.mono_l k
    · intro y0 y1 y2 y3 y4
      unfold spec_flPlay.l0
      repeat' first
      | (with_reducible exact ih0 _ _ _ _ _)
      | (with_reducible exact spec_flGood.mono _ _ _)
      | (with_reducible exact LeO.refl _)
      | (with_reducible exact LeO.none _)
      | (with_reducible refine LeO.ite ?_ ?_)
      | (with_reducible refine LeO.bind ?_ (fun _ => ?_))
      | exact ih0 _ _ _ _ _
      | exact spec_flGood.mono _ _ _
      | exact LeO.none _
      | refine LeO.ite ?_ ?_
      | refine LeO.bind ?_ (fun _ => ?_)
theorem spec_flPlay.mono : ∀ a0 a1 a2 k, LeO (spec_flPlay.f k a0 a1 a2) (spec_flPlay.f (k + 1) a0 a1 a2) := by
  intro a0 a1 a2 k
  have ih0 := spec_flPlay.mono_l k
  unfold spec_flPlay.f
  repeat' first
      | (with_reducible exact ih0 _ _ _ _ _)
      | (with_reducible exact spec_flGood.mono _ _ _)
      | (with_reducible exact LeO.refl _)
      | (with_reducible exact LeO.none _)
      | (with_reducible refine LeO.ite ?_ ?_)
      | (with_reducible refine LeO.bind ?_ (fun _ => ?_))
      | exact ih0 _ _ _ _ _
      | exact spec_flGood.mono _ _ _
      | exact LeO.none _
      | refine LeO.ite ?_ ?_
      | refine LeO.bind ?_ (fun _ => ?_)
set_option maxHeartbeats 8000000 in
set_option maxRecDepth 100000 in
theorem spec_flPlay.calls (k : Nat) (a0 : Int) (a1 : Int) (a2 : Int) (r : List (S56)) (w : World) (h : spec_flPlay.f k a0 a1 a2 = some r) :
    Calls Try.prog 37 #[.int .i64 a0, .int .i64 a1, .int .i64 a2] w fun e w' => ∃ v0_ : Value, e = .returned (v0_) ∧ Kd.R k56 56 w' w.heap.size (fun _ => True) v0_ r ∧ Below w.heap.size w w' := by
  have hu56 := Try.underlying56
  have HB := Aside0.mk (Below.refl w.heap.size w)
  have H : (spec_flPlay.l0 k a0 a2 0 a1 ([] : List (S56))) = some r := h
  clear h
  have H' := Aside0.mk H
  clear H
  go_enter Try.func37, Try.ntmps37
  go_wp2
  go_loopg [0, 7, 8, 9] k (fun kq v0 v7 v8 v9 w' => ∃ (x0_1 : Int) (x7_1 : Int) (x8_1 : Int) (x9_1 : List (S56)), v0 = .int .i64 x0_1 ∧ v7 = .int .i64 x7_1 ∧ v8 = .int .i64 x8_1 ∧ Aside0 (spec_flPlay.l0 kq x0_1 a2 x7_1 x8_1 x9_1 = some r) ∧ Aside0 (kq ≤ k) ∧ Aside0 (Kd.R k56 56 w' w.heap.size (fun _ => True) v9 x9_1) ∧ Aside0 (Below w.heap.size w w'))
  case atStart => exact ⟨(a0), (0), (a1), (([] : List (S56))), (by first | rfl | (simp; done) | (simp [*]; done)), (by first | rfl | (simp; done) | (simp [*]; done)), (by first | rfl | (simp; done) | (simp [*]; done)), H', ⟨Nat.le_refl _⟩, ⟨by first | exact Kd.R_nil _ _ _ _ _ | exact Kd.N_nil _ _ _ _ _ | exact Kd.V_nil _ _ _ _ _ | exact Kd.Q_nil _ _ _ _ _ | exact Kd.S_nil _ _ _ _ _⟩, ⟨by repeat (first | (with_reducible first | exact HB.out | apply below_alloc | apply pw_below_drewN | apply below_drew1) | exact HB.out)⟩⟩
  case round =>
    clear H'
    try clear p2
    try clear c3
    obtain ⟨x0_1, x7_1, x8_1, x9_1, rfl, rfl, rfl, HA, HK1, HO_9, HB⟩ := hrel
    cases gk with
    | zero => exact absurd HA.out (by simp [spec_flPlay.l0])
    | succ k1 =>
      have H := HA.out
      clear HA
      simp only [spec_flPlay.l0] at H
      by_cases c4 : x7_1 < x8_1
      · rw [if_pos c4] at H
        have c4b0 : decide (x7_1 < x8_1) = true := decide_eq_true c4
        clear c4
        replace H := Option.bind_eq_some_iff.mp H
        obtain ⟨t123, A50, H⟩ := H
        replace H : (if 0 < (t123.length : Int) then (if x9_1.length < 8796093022208 then ((some (x9_1 ++ [(⟨wrap64 (x7_1 + (rd t123 0)), decide ((wrap64 (x7_1 + (rd t123 0))) > a2)⟩ : S56)] : List (S56))).bind fun y127 => (if (wrap64 (x7_1 + (rd t123 0))) > a2 then (spec_flPlay.l0 k1 (wrap64 (x0_1 - 1)) a2 x7_1 (wrap64 ((wrap64 (x7_1 + (rd t123 0))) - 1)) y127) else (spec_flPlay.l0 k1 x0_1 a2 (wrap64 (x7_1 + (rd t123 0))) x8_1 y127))) else (none)) else (none)) = some r := H
        have A5 := Aside0.mk A50
        clear A50
        by_cases c6 : 0 < (t123.length : Int)
        · rw [if_pos c6] at H
          have c6b0 : decide (0 < (t123.length : Int)) = true := decide_eq_true c6
          have c6b1 : decide (0 < t123.length) = true := decide_eq_true (by omega)
          clear c6
          by_cases c7 : x9_1.length < 8796093022208
          · rw [if_pos c7] at H
            have LMc7 := Aside0.mk c7
            clear c7
            obtain ⟨y127, hy127⟩ : ∃ y_ : List (S56), y_ = (x9_1 ++ [(⟨wrap64 (x7_1 + (rd t123 0)), decide ((wrap64 (x7_1 + (rd t123 0))) > a2)⟩ : S56)]) := ⟨_, rfl⟩
            replace H : (if (wrap64 (x7_1 + (rd t123 0))) > a2 then (spec_flPlay.l0 k1 (wrap64 (x0_1 - 1)) a2 x7_1 (wrap64 ((wrap64 (x7_1 + (rd t123 0))) - 1)) y127) else (spec_flPlay.l0 k1 x0_1 a2 (wrap64 (x7_1 + (rd t123 0))) x8_1 y127)) = some r := by first | (rw [hy127]; with_reducible exact H) | (have H2_ := (Option.bind_some _ _).symm.trans H; rw [hy127]; with_reducible exact H2_) | (have H2_ := (Option.bind_some _ _).symm.trans H; with_reducible exact H2_) | with_reducible exact H | (rw [hy127]; exact H) | exact H
            have Ny127 := Aside0.mk hy127
            clear hy127
            by_cases c8 : (wrap64 (x7_1 + (rd t123 0))) > a2
            · rw [if_pos c8] at H
              have c8b0 : decide (a2 < (wrap64 (x7_1 + (rd t123 0)))) = true := decide_eq_true c8
              clear c8
              have H' := Aside0.mk H
              clear H
              have hk1_ : decide ((wrap64 (x7_1 + (rd t123 0))) > a2) = true := by first | exact c8b0 | simpa using c8b0
              have Ny127_ := Ny127.out
              (try rw [hk1_] at Ny127_)
              replace Ny127 := Aside0.mk Ny127_
              clear Ny127_
              clear hk1_
              go_wp2_with (first | ((with_reducible refine gate_callee (f := 71) rfl ?_); refine goesL_ (some 21) rfl rfl Try.func71 (by kernel_rfl) rfl #[.int .i64 x0_1, .int .i64 (wrap64 (x8_1 - x7_1))] rfl (by (try simp only [List.map_toArray, List.map_cons, List.map_nil]); first | done | rfl | (simp only [List.length_drop, List.length_take]; rfl)) ?_; (with_reducible refine (spec_flGood.calls k1 x0_1 (wrap64 (x8_1 - x7_1)) t123 _ A5.out).mono ?_); rintro e w9 ⟨v124, rfl, ho0, hb⟩; refine ⟨_, rfl, ?_⟩; have n0_ := Aside0.mk (Kd.R_below (by (with_reducible repeat (first | apply Kd.R_alloc | apply Kd.R_drewN | apply Kd.R_drew)); exact HO_9.out) hb); have n1_ := Aside0.mk (Kd.R_lower ho0 (below_size (by repeat (first | (with_reducible first | exact HB.out | apply below_alloc | apply pw_below_drewN | apply below_drew1) | exact HB.out)))); have n2_ := Aside0.mk (below_step (by repeat (first | (with_reducible first | exact HB.out | apply below_alloc | apply pw_below_drewN | apply below_drew1) | exact HB.out)) hb); clear HO_9; clear HB; have HO_9 := n0_; have HO125 := n1_; have HB := n2_; clear n0_ n1_ n2_; (try clear hb); (try clear hb2); (try clear hk); (try clear hi); (try clear ho0); obtain ⟨Ao10, co10, eo10⟩ := Kd.R_slice HO125.out; subst eo10; have p126 : 0 ≤ (0 : Int) := (by omega); have q126 : 0 < (t123.length : Int) := of_decide_eq_true (by first | (with_reducible assumption) | assumption); obtain ⟨ad126, e126, hx126_0⟩ := Kd.at_int (Kd.R_reads' HO125.out).2.2 0 p126 q126; cases e126; have qi126 : (0 < t123.length) = True := eq_true (by omega); (try rw [show ((0 : Int)).toNat = 0 from rfl] at hx126_0); (try rw [Addr.add_zero'] at hx126_0); replace p126 := eq_true p126; replace q126 := eq_true q126) | ((with_reducible refine gate_builtin (b := .append) (xs := #[.tmp 28, .tmp 32]) rfl ?_); at_builtin; refine Kd.R_append k56 (w0 := w) w.heap.size rfl (.tmp 28) (.tmp 32) 25 56 (.agg #[(.int .i64 0), (.bool false)]) 16 rfl Try.underlying25 info56 rfl (by decide) (by omega) u9 x9_1 (⟨wrap64 (x7_1 + (rd t123 0)), true⟩ : S56) [.int .i64 (wrap64 (x7_1 + (rd t123 0))), .bool true] (fun _ => True) (fun _ => False) rfl rfl ?aP (fun _ hk => hk.elim) ?aF ?aO ?aB ?aS ?aL ?_; (case aP => exact k56_mkM _ _ _ (⟨wrap64 (x7_1 + (rd t123 0)), true⟩ : S56)); (case aB => exact (by repeat (first | (with_reducible first | exact HB.out | apply below_alloc | apply pw_below_drewN | apply below_drew1) | exact HB.out))); (case aF => exact (fun _ _ => trivial)); (case aO => exact (by (with_reducible repeat (first | apply Kd.R_alloc | apply Kd.R_drewN | apply Kd.R_drew)); exact HO_9.out)); (case aS => exact (below_size (by repeat (first | (with_reducible first | exact HB.out | apply below_alloc | apply pw_below_drewN | apply below_drew1) | exact HB.out)))); (case aL => have := LMc7.out; omega); intro v128 w11 ho hb hg hat; rw [← Ny127.out] at ho; have n0_ := Aside0.mk (Kd.R_over' (by (with_reducible repeat (first | apply Kd.R_alloc | apply Kd.R_drewN | apply Kd.R_drew)); exact HO125.out) (Kd.R_typed (by (with_reducible repeat (first | apply Kd.R_alloc | apply Kd.R_drewN | apply Kd.R_drew)); exact HO_9.out)) (by decide) hg); have n1_ := Aside0.mk (hb); have n2_ := Aside0.mk (ho); clear HO125; clear HB; clear HO_9; have HO125 := n0_; have HB := n1_; have HO129 := n2_; clear n0_ n1_ n2_; clear ho hb hg hat))
              go_roundg k1
              case measure => have := HK1.out; omega
              case rel => exact ⟨(wrap64 (x0_1 - 1)), (x7_1), (wrap64 ((wrap64 (x7_1 + (rd t123 0))) - 1)), (y127), (by first | rfl | (simp; done) | (simp [*]; done)), (by first | rfl | (simp; done) | (simp [*]; done)), (by first | rfl | (simp; done) | (simp [*]; done)), H', ⟨by have := HK1.out; omega⟩, ⟨by (with_reducible repeat (first | apply Kd.R_alloc | apply Kd.R_drewN | apply Kd.R_drew)); exact HO129.out⟩, ⟨by repeat (first | (with_reducible first | exact HB.out | apply below_alloc | apply pw_below_drewN | apply below_drew1) | exact HB.out)⟩⟩
            · rw [if_neg c8] at H
              have c8b0 : decide (a2 < (wrap64 (x7_1 + (rd t123 0)))) = false := decide_eq_false c8
              clear c8
              have H' := Aside0.mk H
              clear H
              have hk2_ : decide ((wrap64 (x7_1 + (rd t123 0))) > a2) = false := by first | exact c8b0 | simpa using c8b0
              have Ny127_ := Ny127.out
              (try rw [hk2_] at Ny127_)
              replace Ny127 := Aside0.mk Ny127_
              clear Ny127_
              clear hk2_
              go_wp2_with (first | ((with_reducible refine gate_callee (f := 71) rfl ?_); refine goesL_ (some 21) rfl rfl Try.func71 (by kernel_rfl) rfl #[.int .i64 x0_1, .int .i64 (wrap64 (x8_1 - x7_1))] rfl (by (try simp only [List.map_toArray, List.map_cons, List.map_nil]); first | done | rfl | (simp only [List.length_drop, List.length_take]; rfl)) ?_; (with_reducible refine (spec_flGood.calls k1 x0_1 (wrap64 (x8_1 - x7_1)) t123 _ A5.out).mono ?_); rintro e w12 ⟨v124, rfl, ho0, hb⟩; refine ⟨_, rfl, ?_⟩; have n0_ := Aside0.mk (Kd.R_below (by (with_reducible repeat (first | apply Kd.R_alloc | apply Kd.R_drewN | apply Kd.R_drew)); exact HO_9.out) hb); have n1_ := Aside0.mk (Kd.R_lower ho0 (below_size (by repeat (first | (with_reducible first | exact HB.out | apply below_alloc | apply pw_below_drewN | apply below_drew1) | exact HB.out)))); have n2_ := Aside0.mk (below_step (by repeat (first | (with_reducible first | exact HB.out | apply below_alloc | apply pw_below_drewN | apply below_drew1) | exact HB.out)) hb); clear HO_9; clear HB; have HO_9 := n0_; have HO125 := n1_; have HB := n2_; clear n0_ n1_ n2_; (try clear hb); (try clear hb2); (try clear hk); (try clear hi); (try clear ho0); obtain ⟨Ao13, co13, eo13⟩ := Kd.R_slice HO125.out; subst eo13; have p126 : 0 ≤ (0 : Int) := (by omega); have q126 : 0 < (t123.length : Int) := of_decide_eq_true (by first | (with_reducible assumption) | assumption); obtain ⟨ad126, e126, hx126_0⟩ := Kd.at_int (Kd.R_reads' HO125.out).2.2 0 p126 q126; cases e126; have qi126 : (0 < t123.length) = True := eq_true (by omega); (try rw [show ((0 : Int)).toNat = 0 from rfl] at hx126_0); (try rw [Addr.add_zero'] at hx126_0); replace p126 := eq_true p126; replace q126 := eq_true q126) | ((with_reducible refine gate_builtin (b := .append) (xs := #[.tmp 28, .tmp 32]) rfl ?_); at_builtin; refine Kd.R_append k56 (w0 := w) w.heap.size rfl (.tmp 28) (.tmp 32) 25 56 (.agg #[(.int .i64 0), (.bool false)]) 16 rfl Try.underlying25 info56 rfl (by decide) (by omega) u9 x9_1 (⟨wrap64 (x7_1 + (rd t123 0)), false⟩ : S56) [.int .i64 (wrap64 (x7_1 + (rd t123 0))), .bool false] (fun _ => True) (fun _ => False) rfl rfl ?aP (fun _ hk => hk.elim) ?aF ?aO ?aB ?aS ?aL ?_; (case aP => exact k56_mkM _ _ _ (⟨wrap64 (x7_1 + (rd t123 0)), false⟩ : S56)); (case aB => exact (by repeat (first | (with_reducible first | exact HB.out | apply below_alloc | apply pw_below_drewN | apply below_drew1) | exact HB.out))); (case aF => exact (fun _ _ => trivial)); (case aO => exact (by (with_reducible repeat (first | apply Kd.R_alloc | apply Kd.R_drewN | apply Kd.R_drew)); exact HO_9.out)); (case aS => exact (below_size (by repeat (first | (with_reducible first | exact HB.out | apply below_alloc | apply pw_below_drewN | apply below_drew1) | exact HB.out)))); (case aL => have := LMc7.out; omega); intro v128 w14 ho hb hg hat; rw [← Ny127.out] at ho; have n0_ := Aside0.mk (Kd.R_over' (by (with_reducible repeat (first | apply Kd.R_alloc | apply Kd.R_drewN | apply Kd.R_drew)); exact HO125.out) (Kd.R_typed (by (with_reducible repeat (first | apply Kd.R_alloc | apply Kd.R_drewN | apply Kd.R_drew)); exact HO_9.out)) (by decide) hg); have n1_ := Aside0.mk (hb); have n2_ := Aside0.mk (ho); clear HO125; clear HB; clear HO_9; have HO125 := n0_; have HB := n1_; have HO129 := n2_; clear n0_ n1_ n2_; clear ho hb hg hat))
              go_roundg k1
              case measure => have := HK1.out; omega
              case rel => exact ⟨(x0_1), (wrap64 (x7_1 + (rd t123 0))), (x8_1), (y127), (by first | rfl | (simp; done) | (simp [*]; done)), (by first | rfl | (simp; done) | (simp [*]; done)), (by first | rfl | (simp; done) | (simp [*]; done)), H', ⟨by have := HK1.out; omega⟩, ⟨by (with_reducible repeat (first | apply Kd.R_alloc | apply Kd.R_drewN | apply Kd.R_drew)); exact HO129.out⟩, ⟨by repeat (first | (with_reducible first | exact HB.out | apply below_alloc | apply pw_below_drewN | apply below_drew1) | exact HB.out)⟩⟩
          · rw [if_neg c7] at H
            exact absurd H (by simp)
        · rw [if_neg c6] at H
          exact absurd H (by simp)
      · rw [if_neg c4] at H
        have c4b0 : decide (x7_1 < x8_1) = false := decide_eq_false c4
        clear c4
        obtain rfl := Option.some.inj H
        go_wp2
        go_ret
        exact ⟨_, by first | rfl | (simp [errW_none, errW_some] <;> rfl) | (simp [*, errW_none, errW_some] <;> rfl), by (with_reducible repeat (first | apply Kd.R_alloc | apply Kd.R_drewN | apply Kd.R_drew)); exact HO_9.out, by repeat (first | (with_reducible first | exact HB.out | apply below_alloc | apply pw_below_drewN | apply below_drew1) | exact HB.out)⟩

/-! behind spec_flPlay -/
theorem spec_flPlay_l0 (b : Int) (hb : 0 ≤ b) (hb2 : b ≤ 1000) : ∀ (d k e : Nat) (low high : Int) (acc : List S56), 0 ≤ low → low ≤ high → high ≤ 1000 → e ≤ 10 → (low < high → 1 ≤ e) → (high - low) ≤ d → 20000 + d < k → acc.length + d ≤ 1000000 →
    spec_flPlay.l0 k e b low high acc = some (playF bestF b d e (high - low) low acc) := by
  intro d
  induction d with
  | zero =>
    intro k e low high acc h0 h1 h2 h3 h4 hd hk ha
    obtain ⟨k, rfl⟩ : ∃ m, k = m + 1 := ⟨k - 1, by omega⟩
    rw [spec_flPlay.l0, if_neg (by omega)]; rfl
  | succ d ih =>
    intro k e low high acc h0 h1 h2 h3 h4 hd hk ha
    obtain ⟨k, rfl⟩ : ∃ m, k = m + 1 := ⟨k - 1, by omega⟩
    by_cases hlt : low < high
    · have he1 := h4 hlt
      obtain ⟨r, hr, hr1, hr2⟩ := spec_flGood_is e (high - low) h3 he1 (by omega) (by omega) k (by omega)
      have hg := bestF_range e (high - low) (by omega)
      have hg1 := bestF_one (high - low) (by omega) (by omega)
      have hge : e = 1 → bestF e (high - low) = 1 := fun h => by subst h; exact hg1
      have e1 : wrap64 (high - low) = high - low := by unfold wrap64; omega
      rw [spec_flPlay.l0, if_pos hlt, e1, hr, Option.bind_some, if_pos (by omega), if_pos (by omega), hr2, playF, if_pos (by omega)]
      clear hr hr1 hr2 hg1
      generalize bestF e (high - low) = f at hg hge
      have e2 : wrap64 (low + f) = low + f := by unfold wrap64; omega
      have e3 : wrap64 ((low + f) - 1) = low + f - 1 := by unfold wrap64; omega
      obtain ⟨e', rfl⟩ : ∃ e', e = e' + 1 := ⟨e - 1, by omega⟩
      have e4 : wrap64 (((e' + 1 : Nat) : Int) - 1) = (e' : Int) := by unfold wrap64; omega
      rw [Option.bind_some, e2, e3, e4]
      by_cases hbr : low + f > b
      · rw [if_pos hbr, if_pos hbr, decide_eq_true hbr, Nat.add_sub_cancel, ih k e' low (low + f - 1) _ (by omega) (by omega) (by omega) (by omega) (by omega) (by omega) (by omega) (by simp; omega)]
        rw [show low + f - 1 - low = f - 1 by omega]
      · rw [if_neg hbr, if_neg hbr, decide_eq_false hbr, ih k (e' + 1) (low + f) high _ (by omega) (by omega) (by omega) (by omega) (by omega) (by omega) (by omega) (by simp; omega)]
        rw [show high - (low + f) = high - low - f by omega]
    · rw [spec_flPlay.l0, if_neg hlt, show high - low = 0 by omega, playF_zero]
theorem spec_flPlay_is (e : Nat) (n b : Int) (h1 : 1 ≤ e) (h2 : e ≤ 10) (h3 : 0 ≤ n) (h4 : n ≤ 1000) (h5 : 0 ≤ b) (h6 : b ≤ 1000) (k : Nat) (hk : 30000 ≤ k) : spec_flPlay.f k e n b = some (playF bestF b n.toNat e n 0 []) := by
  unfold spec_flPlay.f
  rw [spec_flPlay_l0 b h5 h6 n.toNat k e 0 n [] (by omega) (by omega) (by omega) h2 (by omega) (by omega) (by omega) (by simp; omega), Int.sub_zero]


/-! ### spec_l1In: function 70 -/
def spec_l1In.f (a0 : Int) (a1 : Int) (a2 : Int) : Option (Bool) := if a0 ≥ a1 then (some (decide (a0 ≤ a2))) else (some false)
set_option maxHeartbeats 8000000 in
set_option maxRecDepth 100000 in
theorem spec_l1In.calls (a0 : Int) (a1 : Int) (a2 : Int) (r : Bool) (w : World) (h : spec_l1In.f a0 a1 a2 = some r) :
    Calls Try.prog 70 #[.int .i64 a0, .int .i64 a1, .int .i64 a2] w fun e w' => e = .returned (.bool r) ∧ Drawn0 w w' := by
  have H : (if a0 ≥ a1 then (some (decide (a0 ≤ a2))) else (some false)) = some r := h
  clear h
  by_cases c4 : a0 ≥ a1
  · rw [if_pos c4] at H
    have c4b0 : decide (a1 ≤ a0) = true := decide_eq_true c4
    clear c4
    obtain rfl := Option.some.inj H
    go_enter Try.func70, Try.ntmps70
    go_wp2
    go_ret
    exact ⟨by first | rfl | (simp; done) | (simp [*]; done), by repeat (first | exact Drawn0.refl _ | apply Drawn0.step)⟩
  · rw [if_neg c4] at H
    have c4b0 : decide (a1 ≤ a0) = false := decide_eq_false c4
    clear c4
    obtain rfl := Option.some.inj H
    go_enter Try.func70, Try.ntmps70
    go_wp2
    go_ret
    exact ⟨by first | rfl | (simp; done) | (simp [*]; done), by repeat (first | exact Drawn0.refl _ | apply Drawn0.step)⟩

set_option maxHeartbeats 8000000 in
set_option maxRecDepth 100000 in
theorem spec_l1In.calls0 (a0 : Int) (a1 : Int) (a2 : Int) (r : Bool) (w : World) (h : spec_l1In.f a0 a1 a2 = some r) :
    Calls Try.prog 70 #[.int .i64 a0, .int .i64 a1, .int .i64 a2] w fun e w' => e = .returned (.bool r) ∧ w = w' := by
  have H : (if a0 ≥ a1 then (some (decide (a0 ≤ a2))) else (some false)) = some r := h
  clear h
  by_cases c4 : a0 ≥ a1
  · rw [if_pos c4] at H
    have c4b0 : decide (a1 ≤ a0) = true := decide_eq_true c4
    clear c4
    obtain rfl := Option.some.inj H
    go_enter Try.func70, Try.ntmps70
    go_wp2
    go_ret
    exact ⟨by first | rfl | (simp; done) | (simp [*]; done), by first | rfl | simp⟩
  · rw [if_neg c4] at H
    have c4b0 : decide (a1 ≤ a0) = false := decide_eq_false c4
    clear c4
    obtain rfl := Option.some.inj H
    go_enter Try.func70, Try.ntmps70
    go_wp2
    go_ret
    exact ⟨by first | rfl | (simp; done) | (simp [*]; done), by first | rfl | simp⟩

/-! behind spec_l1In -/
theorem spec_l1In_is (a lo hi : Int) : spec_l1In.f a lo hi = some (decide (lo ≤ a) && decide (a ≤ hi)) := by
  unfold spec_l1In.f
  by_cases h : a ≥ lo
  · rw [if_pos h, decide_eq_true (by omega : lo ≤ a)]; rfl
  · rw [if_neg h, decide_eq_false (by omega : ¬ lo ≤ a)]; rfl

/-! ### spec_flEggs: function 74 -/
def spec_flEggs.f (a0 : Int) : Option (Bool) := (spec_l1In.f a0 1 10).bind fun t130 => (some t130)
set_option maxHeartbeats 8000000 in
set_option maxRecDepth 100000 in
theorem spec_flEggs.calls (a0 : Int) (r : Bool) (w : World) (h : spec_flEggs.f a0 = some r) :
    Calls Try.prog 74 #[.int .i64 a0] w fun e w' => e = .returned (.bool r) ∧ Drawn0 w w' := by
  have H : ((spec_l1In.f a0 1 10).bind fun t130 => (some t130)) = some r := h
  clear h
  replace H := Option.bind_eq_some_iff.mp H
  obtain ⟨t130, A20, H⟩ := H
  replace H : (some t130) = some r := H
  have A2 := Aside0.mk A20
  clear A20
  obtain rfl := Option.some.inj H
  go_enter Try.func74, Try.ntmps74
  go_wp2_with (first | ((with_reducible refine gate_callee (f := 70) rfl ?_); refine goesL_ (some 4) rfl rfl Try.func70 (by kernel_rfl) rfl #[.int .i64 a0, .int .i64 1, .int .i64 10] rfl (by (try simp only [List.map_toArray, List.map_cons, List.map_nil]); first | done | rfl | (simp only [List.length_drop, List.length_take]; rfl)) ?_; (with_reducible refine (spec_l1In.calls0 a0 1 10 t130 _ A2.out).mono ?_); rintro e w' ⟨rfl, rfl⟩; refine ⟨_, rfl, ?_⟩))
  go_ret
  exact ⟨by first | rfl | (simp; done) | (simp [*]; done), by repeat (first | exact Drawn0.refl _ | apply Drawn0.step)⟩

set_option maxHeartbeats 8000000 in
set_option maxRecDepth 100000 in
theorem spec_flEggs.calls0 (a0 : Int) (r : Bool) (w : World) (h : spec_flEggs.f a0 = some r) :
    Calls Try.prog 74 #[.int .i64 a0] w fun e w' => e = .returned (.bool r) ∧ w = w' := by
  have H : ((spec_l1In.f a0 1 10).bind fun t130 => (some t130)) = some r := h
  clear h
  replace H := Option.bind_eq_some_iff.mp H
  obtain ⟨t130, A20, H⟩ := H
  replace H : (some t130) = some r := H
  have A2 := Aside0.mk A20
  clear A20
  obtain rfl := Option.some.inj H
  go_enter Try.func74, Try.ntmps74
  go_wp2_with (first | ((with_reducible refine gate_callee (f := 70) rfl ?_); refine goesL_ (some 4) rfl rfl Try.func70 (by kernel_rfl) rfl #[.int .i64 a0, .int .i64 1, .int .i64 10] rfl (by (try simp only [List.map_toArray, List.map_cons, List.map_nil]); first | done | rfl | (simp only [List.length_drop, List.length_take]; rfl)) ?_; (with_reducible refine (spec_l1In.calls0 a0 1 10 t130 _ A2.out).mono ?_); rintro e w' ⟨rfl, rfl⟩; refine ⟨_, rfl, ?_⟩))
  go_ret
  exact ⟨by first | rfl | (simp; done) | (simp [*]; done), by first | rfl | simp⟩

/-! behind spec_flEggs -/
theorem spec_flEggs_is (a : Int) : spec_flEggs.f a = some (decide (1 ≤ a) && decide (a ≤ 10)) := by unfold spec_flEggs.f; rw [spec_l1In_is]; rfl

end Go.Proofs.Ytiahedkmlacpkaa.PrintY
