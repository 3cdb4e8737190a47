-- written by this session's own driver (wip/gen.py) with the kit's print and contracts of our own
import Derived.Test.YtiahedkmlacpkaaPrintY0
import Derived.Test.YtiahedkmlacpkaaPrintY1
import Derived.Test.YtiahedkmlacpkaaPrintY2
import Derived.Test.YtiahedkmlacpkaaPrintY3
import Derived.Test.YtiahedkmlacpkaaPrintY4
import Derived.Test.YtiahedkmlacpkaaPrintY5
namespace Go.Proofs.Ytiahedkmlacpkaa.PrintY
open Go.RowKit Go.Proofs.YtiahedkmlacpkaaLib Go.Proofs.YtiahedkmlacpkaaW.PrintWords Go.Proofs.YtiahedkmlacpkaaW.PrintLast Go.Proofs.YtiahedkmlacpkaaW.PrintMore
attribute [local go_sem] max2_int min2_int max_two min_two max_three min_three max_four min_four   -- for this text's walks alone
set_option linter.unusedVariables false
set_option linter.unusedSimpArgs false

/-! behind spec_flReach -/
theorem spec_flReach_l1 (e : Nat) (n x6 : Int) (he : e ≤ 10) (t : Nat) : ∀ x k, x ≤ e → spec_flReach.l1 (k + x + 1) e n (rowL t x e) x6 x = spec_flReach.l0 k e n (rowL (t + 1) e e) (wrap64 (x6 + 1))
  | 0, k, _ => by
    rw [show k + 0 + 1 = k + 1 from rfl, spec_flReach.l1, if_neg (by omega), rowL_zero]
  | x + 1, k, hx => by
    have hl : ((rowL t (x + 1) e).length : Int) = e + 1 := by rw [rowL_len]; omega
    have e1 : wrap64 (((x + 1 : Nat) : Int) - 1) = (x : Int) := by unfold wrap64; omega
    have r1 := rowL_rd t (x + 1) e x (by omega)
    have r2 := rowL_rd t (x + 1) e (x + 1) (by omega)
    rw [if_neg (by omega)] at r1 r2
    have g1 := rch_range t x
    have g2 := rch_range t (x + 1)
    have e2 : wrap64 (wrap64 (rch t x + rch t (x + 1)) + 1) = rch t x + rch t (x + 1) + 1 := by unfold wrap64; omega
    have e3 : min (rch t x + rch t (x + 1) + 1) 1000000001 = rch (t + 1) (x + 1) := by simp only [rch]; omega
    rw [show k + (x + 1) + 1 = (k + x + 1) + 1 by omega, spec_flReach.l1, e1, hl, if_pos (by omega), if_pos (by omega), if_pos (by omega), if_pos (by omega), if_pos (by omega), r1, r2, e2, spec_l1Least_is, Option.bind_some, e3, Int.toNat_natCast, rowL_set t (x + 1) e (by omega), Nat.add_sub_cancel]
    exact spec_flReach_l1 e n x6 he t x k (by omega)
theorem spec_flReach_l0 (e T : Nat) (he : e ≤ 10) (hT : T ≤ 1000) : ∀ (d k t : Nat), T - t = d → t ≤ T → (d + 1) * 13 ≤ k → spec_flReach.l0 k e T (rowL t e e) t = some (rch T e) := by
  intro d
  induction d with
  | zero =>
    intro k t hd ht hk
    obtain ⟨k, rfl⟩ : ∃ m, k = m + 1 := ⟨k - 1, by omega⟩
    obtain rfl : t = T := by omega
    have r1 := rowL_rd t e e e (by omega)
    rw [if_neg (by omega)] at r1
    rw [spec_flReach.l0, rowL_len, r1, if_neg (by omega), if_pos (by omega), if_pos (by omega)]
  | succ d ih =>
    intro k t hd ht hk
    obtain ⟨k, rfl⟩ : ∃ m, k = m + e + 1 + 1 := ⟨k - e - 2, by omega⟩
    have e1 : wrap64 ((t : Int) + 1) = ((t + 1 : Nat) : Int) := by unfold wrap64; omega
    rw [spec_flReach.l0, if_pos (by omega), spec_flReach_l1 e T t he t e k (by omega), e1]
    exact ih k (t + 1) (by omega) (by omega) (by omega)
theorem spec_flReach_is (e T : Nat) (he : e ≤ 10) (hT : T ≤ 1000) (k : Nat) (hk : 20000 ≤ k) : spec_flReach.f k e T = some (rch T e) := by
  have e1 : wrap64 ((e : Int) + 1) = ((e + 1 : Nat) : Int) := by unfold wrap64; omega
  unfold spec_flReach.f
  rw [e1, if_pos (by omega), if_pos (by omega), Int.toNat_natCast, rowL_start]
  exact spec_flReach_l0 e T he hT _ k 0 rfl (by omega) (by omega)

/-! ### spec_flGood: function 71 -/
def spec_flGood.l0 : Nat → Int → Int → Int → List Int → Int → Option (List Int)
  | 0, _, _, _, _, _ => none
  | k + 1, x1, x6, x7, x8, x9 => if x9 ≤ x1 then (if x6 ≥ (wrap64 (x9 - 1)) then (if x7 ≥ (wrap64 (x1 - x9)) then (if x8.length < 17592186044416 then (spec_flGood.l0 k x1 x6 x7 (x8 ++ [x9]) (wrap64 (x9 + 1))) else (none)) else (spec_flGood.l0 k x1 x6 x7 x8 (wrap64 (x9 + 1)))) else (spec_flGood.l0 k x1 x6 x7 x8 (wrap64 (x9 + 1)))) else (some x8)
def spec_flGood.f (k : Nat) (a0 : Int) (a1 : Int) : Option (List Int) := (spec_flFew.f k a0 a1).bind fun t117 => ((spec_flReach.f k (wrap64 (a0 - 1)) (wrap64 (t117 - 1))).bind fun t118 => ((spec_flReach.f k a0 (wrap64 (t117 - 1))).bind fun t119 => (spec_flGood.l0 k a1 t118 t119 ([] : List Int) 1)))
theorem spec_flGood.mono_l : ∀ k, (∀ y0 y1 y2 y3 y4, LeO (spec_flGood.l0 k y0 y1 y2 y3 y4) (spec_flGood.l0 (k + 1) y0 y1 y2 y3 y4))
  | 0 => fun _ _ _ _ _ r h => by simp [spec_flGood.l0] at h
  | k + 1 => by
    have ih0 := spec_flGood.mono_l k
    · intro y0 y1 y2 y3 y4
      unfold spec_flGood.l0
      repeat' first
      | (with_reducible exact ih0 _ _ _ _ _)
      | (with_reducible exact spec_flFew.mono _ _ _)
      | (with_reducible exact spec_flReach.mono _ _ _)
      | (with_reducible exact LeO.refl _)
      | (with_reducible exact LeO.none _)
      | (with_reducible refine LeO.ite ?_ ?_)
      | (with_reducible refine LeO.bind ?_ (fun _ => ?_))
      | exact ih0 _ _ _ _ _
      | exact spec_flFew.mono _ _ _
      | exact spec_flReach.mono _ _ _
      | exact LeO.none _
      | refine LeO.ite ?_ ?_
      | refine LeO.bind ?_ (fun _ => ?_)
theorem spec_flGood.mono : ∀ a0 a1 k, LeO (spec_flGood.f k a0 a1) (spec_flGood.f (k + 1) a0 a1) := by
  intro a0 a1 k
  have ih0 := spec_flGood.mono_l k
  unfold spec_flGood.f
  repeat' first
      | (with_reducible exact ih0 _ _ _ _ _)
      | (with_reducible exact spec_flFew.mono _ _ _)
      | (with_reducible exact spec_flReach.mono _ _ _)
      | (with_reducible exact LeO.refl _)
      | (with_reducible exact LeO.none _)
      | (with_reducible refine LeO.ite ?_ ?_)
      | (with_reducible refine LeO.bind ?_ (fun _ => ?_))
      | exact ih0 _ _ _ _ _
      | exact spec_flFew.mono _ _ _
      | exact spec_flReach.mono _ _ _
      | exact LeO.none _
      | refine LeO.ite ?_ ?_
      | refine LeO.bind ?_ (fun _ => ?_)
set_option maxHeartbeats 8000000 in
set_option maxRecDepth 100000 in
theorem spec_flGood.calls (k : Nat) (a0 : Int) (a1 : Int) (r : List Int) (w : World) (h : spec_flGood.f k a0 a1 = some r) :
    Calls Try.prog 71 #[.int .i64 a0, .int .i64 a1] w fun e w' => ∃ v0_ : Value, e = .returned (v0_) ∧ Kd.R (Kd.int .i64) 3 w' w.heap.size (fun _ => True) v0_ r ∧ Below w.heap.size w w' := by
  have HB := Aside0.mk (Below.refl w.heap.size w)
  have H : ((spec_flFew.f k a0 a1).bind fun t117 => ((spec_flReach.f k (wrap64 (a0 - 1)) (wrap64 (t117 - 1))).bind fun t118 => ((spec_flReach.f k a0 (wrap64 (t117 - 1))).bind fun t119 => (spec_flGood.l0 k a1 t118 t119 ([] : List Int) 1)))) = some r := h
  clear h
  replace H := Option.bind_eq_some_iff.mp H
  obtain ⟨t117, A30, H⟩ := H
  replace H : ((spec_flReach.f k (wrap64 (a0 - 1)) (wrap64 (t117 - 1))).bind fun t118 => ((spec_flReach.f k a0 (wrap64 (t117 - 1))).bind fun t119 => (spec_flGood.l0 k a1 t118 t119 ([] : List Int) 1))) = some r := H
  have A3 := Aside0.mk A30
  clear A30
  replace H := Option.bind_eq_some_iff.mp H
  obtain ⟨t118, A40, H⟩ := H
  replace H : ((spec_flReach.f k a0 (wrap64 (t117 - 1))).bind fun t119 => (spec_flGood.l0 k a1 t118 t119 ([] : List Int) 1)) = some r := H
  have A4 := Aside0.mk A40
  clear A40
  replace H := Option.bind_eq_some_iff.mp H
  obtain ⟨t119, A50, H⟩ := H
  replace H : (spec_flGood.l0 k a1 t118 t119 ([] : List Int) 1) = some r := H
  have A5 := Aside0.mk A50
  clear A50
  have H' := Aside0.mk H
  clear H
  go_enter Try.func71, Try.ntmps71
  go_wp2_with (first | ((with_reducible refine gate_callee (f := 78) rfl ?_); refine goesL_ (some 12) rfl rfl Try.func78 (by kernel_rfl) rfl #[.int .i64 a0, .int .i64 a1] rfl (by (try simp only [List.map_toArray, List.map_cons, List.map_nil]); first | done | rfl | (simp only [List.length_drop, List.length_take]; rfl)) ?_; (with_reducible refine (spec_flFew.calls k a0 a1 t117 _ A3.out).mono ?_); rintro e w6 ⟨rfl, hb⟩; refine ⟨_, rfl, ?_⟩; have n0_ := Aside0.mk (below_step (by repeat (first | (with_reducible first | exact HB.out | apply below_alloc | apply pw_below_drewN | apply below_drew1) | exact HB.out)) hb); clear HB; have HB := n0_; clear n0_; (try clear hb); (try clear hb2); (try clear hk); (try clear hi)) | ((with_reducible refine gate_callee (f := 93) rfl ?_); refine goesL_ (some 17) rfl rfl Try.func93 (by kernel_rfl) rfl #[.int .i64 (wrap64 (a0 - 1)), .int .i64 (wrap64 (t117 - 1))] rfl (by (try simp only [List.map_toArray, List.map_cons, List.map_nil]); first | done | rfl | (simp only [List.length_drop, List.length_take]; rfl)) ?_; (with_reducible refine (spec_flReach.calls k (wrap64 (a0 - 1)) (wrap64 (t117 - 1)) t118 _ A4.out).mono ?_); rintro e w7 ⟨rfl, hb⟩; refine ⟨_, rfl, ?_⟩; have n0_ := Aside0.mk (below_step (by repeat (first | (with_reducible first | exact HB.out | apply below_alloc | apply pw_below_drewN | apply below_drew1) | exact HB.out)) hb); clear HB; have HB := n0_; clear n0_; (try clear hb); (try clear hb2); (try clear hk); (try clear hi)) | ((with_reducible refine gate_callee (f := 93) rfl ?_); refine goesL_ (some 21) rfl rfl Try.func93 (by kernel_rfl) rfl #[.int .i64 a0, .int .i64 (wrap64 (t117 - 1))] rfl (by (try simp only [List.map_toArray, List.map_cons, List.map_nil]); first | done | rfl | (simp only [List.length_drop, List.length_take]; rfl)) ?_; (with_reducible refine (spec_flReach.calls k a0 (wrap64 (t117 - 1)) t119 _ A5.out).mono ?_); rintro e w8 ⟨rfl, hb⟩; refine ⟨_, rfl, ?_⟩; have n0_ := Aside0.mk (below_step (by repeat (first | (with_reducible first | exact HB.out | apply below_alloc | apply pw_below_drewN | apply below_drew1) | exact HB.out)) hb); clear HB; have HB := n0_; clear n0_; (try clear hb); (try clear hb2); (try clear hk); (try clear hi)))
  go_loopg [8, 9] k (fun kq v8 v9 w' => ∃ (x8_1 : List Int) (x9_1 : Int), v9 = .int .i64 x9_1 ∧ Aside0 (spec_flGood.l0 kq a1 t118 t119 x8_1 x9_1 = some r) ∧ Aside0 (kq ≤ k) ∧ Aside0 (Kd.R (Kd.int .i64) 3 w' w.heap.size (fun _ => True) v8 x8_1) ∧ Aside0 (Below w.heap.size w w'))
  case atStart => exact ⟨(([] : List Int)), (1), (by first | rfl | (simp; done) | (simp [*]; done)), H', ⟨Nat.le_refl _⟩, ⟨by first | exact Kd.R_nil _ _ _ _ _ | exact Kd.N_nil _ _ _ _ _ | exact Kd.V_nil _ _ _ _ _ | exact Kd.Q_nil _ _ _ _ _ | exact Kd.S_nil _ _ _ _ _⟩, ⟨by repeat (first | (with_reducible first | exact HB.out | apply below_alloc | apply pw_below_drewN | apply below_drew1) | exact HB.out)⟩⟩
  case round =>
    clear H'
    try clear p2
    try clear p6
    try clear c7
    obtain ⟨x8_1, x9_1, rfl, HA, HK1, HO_8, HB⟩ := hrel
    cases gk with
    | zero => exact absurd HA.out (by simp [spec_flGood.l0])
    | succ k1 =>
      have H := HA.out
      clear HA
      simp only [spec_flGood.l0] at H
      by_cases c9 : x9_1 ≤ a1
      · rw [if_pos c9] at H
        have c9b0 : decide (x9_1 ≤ a1) = true := decide_eq_true c9
        clear c9
        by_cases c10 : t118 ≥ (wrap64 (x9_1 - 1))
        · rw [if_pos c10] at H
          have c10b0 : decide ((wrap64 (x9_1 - 1)) ≤ t118) = true := decide_eq_true c10
          clear c10
          by_cases c11 : t119 ≥ (wrap64 (a1 - x9_1))
          · rw [if_pos c11] at H
            have c11b0 : decide ((wrap64 (a1 - x9_1)) ≤ t119) = true := decide_eq_true c11
            clear c11
            by_cases c12 : x8_1.length < 17592186044416
            · rw [if_pos c12] at H
              have LMc12 := Aside0.mk c12
              clear c12
              obtain ⟨y120, hy120⟩ : ∃ y_ : List Int, y_ = (x8_1 ++ [x9_1]) := ⟨_, rfl⟩
              replace H : (spec_flGood.l0 k1 a1 t118 t119 y120 (wrap64 (x9_1 + 1))) = some r := by first | (rw [hy120]; with_reducible exact H) | (have H2_ := (Option.bind_some _ _).symm.trans H; rw [hy120]; with_reducible exact H2_) | (have H2_ := (Option.bind_some _ _).symm.trans H; with_reducible exact H2_) | with_reducible exact H | (rw [hy120]; exact H) | exact H
              have Ny120 := Aside0.mk hy120
              clear hy120
              have H' := Aside0.mk H
              clear H
              go_wp2_with (first | ((with_reducible refine gate_builtin (b := .append) (xs := #[.tmp 38, .tmp 40]) rfl ?_); at_builtin; refine Kd.R_append (Kd.int .i64) (w0 := w) w.heap.size rfl (.tmp 38) (.tmp 40) 30 3 (.int .i64 0) 8 rfl Try.underlying30 info3 rfl (by decide) (by omega) u8 x8_1 x9_1 [.int .i64 x9_1] (fun _ => True) (fun _ => False) rfl rfl ?aP (fun _ hk => hk.elim) ?aF ?aO ?aB ?aS ?aL ?_; (case aP => exact rfl); (case aB => exact (by repeat (first | (with_reducible first | exact HB.out | apply below_alloc | apply pw_below_drewN | apply below_drew1) | exact HB.out))); (case aF => exact (fun _ _ => trivial)); (case aO => exact (by (with_reducible repeat (first | apply Kd.R_alloc | apply Kd.R_drewN | apply Kd.R_drew)); exact HO_8.out)); (case aS => exact (below_size (by repeat (first | (with_reducible first | exact HB.out | apply below_alloc | apply pw_below_drewN | apply below_drew1) | exact HB.out)))); (case aL => have := LMc12.out; omega); intro v121 w13 ho hb hg hat; rw [← Ny120.out] at ho; have n0_ := Aside0.mk (hb); have n1_ := Aside0.mk (ho); clear HB; clear HO_8; have HB := n0_; have HO122 := n1_; clear n0_ n1_; clear ho hb hg hat))
              go_roundg k1
              case measure => have := HK1.out; omega
              case rel => exact ⟨(y120), (wrap64 (x9_1 + 1)), (by first | rfl | (simp; done) | (simp [*]; done)), H', ⟨by have := HK1.out; omega⟩, ⟨by (with_reducible repeat (first | apply Kd.R_alloc | apply Kd.R_drewN | apply Kd.R_drew)); exact HO122.out⟩, ⟨by repeat (first | (with_reducible first | exact HB.out | apply below_alloc | apply pw_below_drewN | apply below_drew1) | exact HB.out)⟩⟩
            · rw [if_neg c12] at H
              exact absurd H (by simp)
          · rw [if_neg c11] at H
            have c11b0 : decide ((wrap64 (a1 - x9_1)) ≤ t119) = false := decide_eq_false c11
            clear c11
            have H' := Aside0.mk H
            clear H
            go_wp2
            go_roundg k1
            case measure => have := HK1.out; omega
            case rel => exact ⟨(x8_1), (wrap64 (x9_1 + 1)), (by first | rfl | (simp; done) | (simp [*]; done)), H', ⟨by have := HK1.out; omega⟩, ⟨by (with_reducible repeat (first | apply Kd.R_alloc | apply Kd.R_drewN | apply Kd.R_drew)); exact HO_8.out⟩, ⟨by repeat (first | (with_reducible first | exact HB.out | apply below_alloc | apply pw_below_drewN | apply below_drew1) | exact HB.out)⟩⟩
        · rw [if_neg c10] at H
          have c10b0 : decide ((wrap64 (x9_1 - 1)) ≤ t118) = false := decide_eq_false c10
          clear c10
          have H' := Aside0.mk H
          clear H
          go_wp2
          go_roundg k1
          case measure => have := HK1.out; omega
          case rel => exact ⟨(x8_1), (wrap64 (x9_1 + 1)), (by first | rfl | (simp; done) | (simp [*]; done)), H', ⟨by have := HK1.out; omega⟩, ⟨by (with_reducible repeat (first | apply Kd.R_alloc | apply Kd.R_drewN | apply Kd.R_drew)); exact HO_8.out⟩, ⟨by repeat (first | (with_reducible first | exact HB.out | apply below_alloc | apply pw_below_drewN | apply below_drew1) | exact HB.out)⟩⟩
      · rw [if_neg c9] at H
        have c9b0 : decide (x9_1 ≤ a1) = false := decide_eq_false c9
        clear c9
        obtain rfl := Option.some.inj H
        go_wp2
        go_ret
        exact ⟨_, by first | rfl | (simp [errW_none, errW_some] <;> rfl) | (simp [*, errW_none, errW_some] <;> rfl), by (with_reducible repeat (first | apply Kd.R_alloc | apply Kd.R_drewN | apply Kd.R_drew)); exact HO_8.out, by repeat (first | (with_reducible first | exact HB.out | apply below_alloc | apply pw_below_drewN | apply below_drew1) | exact HB.out)⟩

/-! behind spec_flGood -/
theorem spec_flGood_l0 (n R1 R2 b : Int) (hn : n ≤ 1000) (hR1 : 0 ≤ R1 ∧ R1 ≤ 1000000001) (hR2 : 0 ≤ R2 ∧ R2 ≤ 1000000001) (hb : b = max 1 (n - R2)) (hb1 : b - 1 ≤ R1) (hbn : b ≤ n) : ∀ (d k : Nat) (i : Int) (acc : List Int), 1 ≤ i → i ≤ n + 1 → n + 1 - i = d → d < k → (acc.length : Int) < i → ((acc = [] ∧ i ≤ b) ∨ (0 < acc.length ∧ rd acc 0 = b)) →
    ∃ r, spec_flGood.l0 k n R1 R2 acc i = some r ∧ 0 < r.length ∧ rd r 0 = b := by
  intro d
  induction d with
  | zero =>
    intro k i acc h1 h2 hd hk hl hs
    obtain ⟨k, rfl⟩ : ∃ m, k = m + 1 := ⟨k - 1, by omega⟩
    refine ⟨acc, by rw [spec_flGood.l0, if_neg (by omega)], ?_⟩
    rcases hs with ⟨_, h⟩ | h
    · omega
    · exact h
  | succ d ih =>
    intro k i acc h1 h2 hd hk hl hs
    obtain ⟨k, rfl⟩ : ∃ m, k = m + 1 := ⟨k - 1, by omega⟩
    have e1 : wrap64 (i - 1) = i - 1 := by unfold wrap64; omega
    have e2 : wrap64 (n - i) = n - i := by unfold wrap64; omega
    have e3 : wrap64 (i + 1) = i + 1 := by unfold wrap64; omega
    rw [spec_flGood.l0, e1, e2, e3, if_pos (by omega)]
    have hskip : ¬ (R1 ≥ i - 1 ∧ R2 ≥ n - i) → ((acc = [] ∧ i + 1 ≤ b) ∨ (0 < acc.length ∧ rd acc 0 = b)) := by
      intro hno
      rcases hs with ⟨ha, hi⟩ | h
      · left; refine ⟨ha, ?_⟩; omega
      · exact Or.inr h
    by_cases c1 : R1 ≥ i - 1
    · rw [if_pos c1]
      by_cases c2 : R2 ≥ n - i
      · rw [if_pos c2, if_pos (by omega)]
        refine ih k (i + 1) (acc ++ [i]) (by omega) (by omega) (by omega) (by omega) (by simp; omega) (Or.inr ⟨by simp, ?_⟩)
        rcases hs with ⟨ha, hi⟩ | ⟨h3, h4⟩
        · subst ha; simp [rd]; omega
        · rw [← h4]
          cases acc with
          | nil => simp at h3
          | cons y ys => simp [rd]
      · rw [if_neg c2]
        exact ih k (i + 1) acc (by omega) (by omega) (by omega) (by omega) (by omega) (hskip (fun h => c2 h.2))
    · rw [if_neg c1]
      exact ih k (i + 1) acc (by omega) (by omega) (by omega) (by omega) (by omega) (hskip (fun h => c1 h.1))
theorem spec_flGood_is (e : Nat) (n : Int) (he : e ≤ 10) (he1 : 1 ≤ e) (hn1 : 1 ≤ n) (hn : n ≤ 1000) (k : Nat) (hk : 20000 ≤ k) : ∃ r, spec_flGood.f k e n = some r ∧ 0 < r.length ∧ rd r 0 = bestF e n := by
  obtain ⟨t, ht⟩ : ∃ t, few e n = t + 1 := ⟨few e n - 1, by have := few_pos e n hn1; omega⟩
  have h1000 := few_le e n
  obtain ⟨e', rfl⟩ : ∃ e', e = e' + 1 := ⟨e - 1, by omega⟩
  have e1 : wrap64 (((e' + 1 : Nat) : Int) - 1) = (e' : Int) := by unfold wrap64; omega
  have e2 : wrap64 (((t + 1 : Nat) : Int) - 1) = (t : Int) := by unfold wrap64; omega
  have hb : bestF (e' + 1) n = max 1 (n - rch t (e' + 1)) := by unfold bestF; rw [ht]; rfl
  have hr := bestF_range (e' + 1) n hn1
  have hn2 : n ≤ rch (t + 1) (e' + 1) := by
    by_cases hf : t + 1 < 1000
    · exact (few_le_iff (e' + 1) n (t + 1) hf).1 (by omega)
    · have := rch_lin (t + 1) (e' + 1) (by omega) (by omega)
      omega
  have hg1 := rch_range t e'
  have hg2 := rch_range t (e' + 1)
  unfold spec_flGood.f
  rw [spec_flFew_is (e' + 1) n he he1 hn k hk, Option.bind_some, ht, e1, e2, spec_flReach_is e' t (by omega) (by omega) k hk, Option.bind_some, spec_flReach_is (e' + 1) t he (by omega) k hk, Option.bind_some, hb]
  simp only [rch] at hn2
  exact spec_flGood_l0 n (rch t e') (rch t (e' + 1)) _ hn hg1 hg2 rfl (by omega) (by omega) n.toNat k 1 [] (by omega) (by omega) (by omega) (by omega) (by simp) (Or.inl ⟨rfl, by omega⟩)

end Go.Proofs.Ytiahedkmlacpkaa.PrintY
