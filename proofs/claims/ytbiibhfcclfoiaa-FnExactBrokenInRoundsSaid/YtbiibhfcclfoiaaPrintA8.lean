-- written by this session's own driver (wip/gen.py) with the kit's print and contracts of our own
import Derived.Test.YtbiibhfcclfoiaaPrintA0
import Derived.Test.YtbiibhfcclfoiaaPrintA6
namespace Go.Proofs.Ytbiibhfcclfoiaa.PrintA
open Go.RowKit Go.Proofs.YtbiibhfcclfoiaaLib Go.Proofs.YtbiibhfcclfoiaaW.PrintWords Go.Proofs.YtbiibhfcclfoiaaW.PrintLast Go.Proofs.YtbiibhfcclfoiaaW.PrintMore
attribute [local go_sem] max2_int min2_int max_two min_two max_three min_three max_four min_four   -- for this text's walks alone
set_option linter.unusedVariables false
set_option linter.unusedSimpArgs false

/-! ### impl_above: function 23 -/
def impl_above.l0 : Nat → Int → Int → List Int → Int → Int → Option (Int)
  | 0, _, _, _, _, _ => none
  | k + 1, x1, x5, x8, x9, x10 => if x10 < x9 then (if 0 ≤ x10 then (if x10 < (x8.length : Int) then (if (rd x8 x10) > x1 then (impl_above.l0 k x1 (wrap64 (x5 + 1)) x8 x9 (wrap64 (x10 + 1))) else (impl_above.l0 k x1 x5 x8 x9 (wrap64 (x10 + 1)))) else (none)) else (none)) else (some x5)
def impl_above.f (k : Nat) (l0 : List Int) (a1 : Int) : Option (Int) := impl_above.l0 k a1 0 l0 (l0.length : Int) 0
theorem impl_above.mono_l : ∀ k, (∀ y0 y1 y2 y3 y4, LeO (impl_above.l0 k y0 y1 y2 y3 y4) (impl_above.l0 (k + 1) y0 y1 y2 y3 y4))
  | 0 => fun _ _ _ _ _ r h => by simp [impl_above.l0] at h
  | k + 1 => by
    have ih0 := impl_above.mono_l k
    · intro y0 y1 y2 y3 y4
      unfold impl_above.l0
      repeat' first
      | (with_reducible exact ih0 _ _ _ _ _)
      | (with_reducible exact LeO.refl _)
      | (with_reducible exact LeO.none _)
      | (with_reducible refine LeO.ite ?_ ?_)
      | (with_reducible refine LeO.bind ?_ (fun _ => ?_))
      | exact ih0 _ _ _ _ _
      | exact LeO.none _
      | refine LeO.ite ?_ ?_
      | refine LeO.bind ?_ (fun _ => ?_)
theorem impl_above.mono : ∀ a0 a1 k, LeO (impl_above.f k a0 a1) (impl_above.f (k + 1) a0 a1) := by
  intro a0 a1 k
  have ih0 := impl_above.mono_l k
  unfold impl_above.f
  repeat' first
      | (with_reducible exact ih0 _ _ _ _ _)
      | (with_reducible exact LeO.refl _)
      | (with_reducible exact LeO.none _)
      | (with_reducible refine LeO.ite ?_ ?_)
      | (with_reducible refine LeO.bind ?_ (fun _ => ?_))
      | exact ih0 _ _ _ _ _
      | exact LeO.none _
      | refine LeO.ite ?_ ?_
      | refine LeO.bind ?_ (fun _ => ?_)
set_option maxHeartbeats 8000000 in
set_option maxRecDepth 100000 in
theorem impl_above.calls (k : Nat) (A0 : Option Addr) (c0 : Nat) (l0 : List Int) (a1 : Int) (r : Int) (w : World) (hr0 : Kd.C (Kd.int .i64) w A0 l0.length l0) (hc0 : l0.length ≤ c0) (h : impl_above.f k l0 a1 = some r) :
    Calls Try.prog 23 #[.slice A0 l0.length c0, .int .i64 a1] w fun e w' => e = .returned (.int .i64 r) ∧ Drawn0 w w' := by
  have HR0 := Aside0.mk hr0
  have HC0 := Aside0.mk hc0
  clear hr0 hc0
  have H : (impl_above.l0 k a1 0 l0 (l0.length : Int) 0) = some r := h
  clear h
  have H' := Aside0.mk H
  clear H
  go_enter Try.func23, Try.ntmps23
  go_wp2
  go_loopg [5, 10] k (fun kq v5 v10 w' => ∃ (x5_1 : Int) (x10_1 : Int), v5 = .int .i64 x5_1 ∧ v10 = .int .i64 x10_1 ∧ Aside0 (impl_above.l0 kq a1 x5_1 l0 (l0.length : Int) x10_1 = some r) ∧ Aside0 (kq ≤ k) ∧ Drawn0 w w')
  case atStart => exact ⟨(0), (0), (by first | rfl | (simp; done) | (simp [*]; done)), (by first | rfl | (simp; done) | (simp [*]; done)), H', ⟨Nat.le_refl _⟩, by repeat (first | exact Drawn0.refl _ | apply Drawn0.step)⟩
  case round =>
    clear H'
    try clear c2
    try clear p2
    obtain ⟨x5_1, x10_1, rfl, rfl, HA, HK1, ⟨m1, rfl⟩⟩ := hrel
    cases gk with
    | zero => exact absurd HA.out (by simp [impl_above.l0])
    | succ k1 =>
      have H := HA.out
      clear HA
      simp only [impl_above.l0] at H
      by_cases c3 : x10_1 < (l0.length : Int)
      · rw [if_pos c3] at H
        have c3b0 : decide (x10_1 < (l0.length : Int)) = true := decide_eq_true c3
        clear c3
        by_cases c4 : 0 ≤ x10_1
        · rw [if_pos c4] at H
          have c4b0 : decide (0 ≤ x10_1) = true := decide_eq_true c4
          clear c4
          by_cases c5 : x10_1 < (l0.length : Int)
          · rw [if_pos c5] at H
            have c5b0 : decide (x10_1 < (l0.length : Int)) = true := decide_eq_true c5
            clear c5
            by_cases c6 : (rd l0 x10_1) > a1
            · rw [if_pos c6] at H
              have c6b0 : decide (a1 < (rd l0 x10_1)) = true := decide_eq_true c6
              clear c6
              have H' := Aside0.mk H
              clear H
              have p157 : 0 ≤ (x10_1 : Int) := of_decide_eq_true (by first | (with_reducible assumption) | assumption)
              have q157 : x10_1 < (l0.length : Int) := of_decide_eq_true (by first | (with_reducible assumption) | assumption)
              obtain ⟨ad157, e157, hx157_0⟩ := Kd.at_int HR0.out x10_1 p157 q157
              cases e157
              replace p157 := eq_true p157
              replace q157 := eq_true q157
              go_wp2
              go_roundg k1
              case measure => have := HK1.out; omega
              case rel => exact ⟨(wrap64 (x5_1 + 1)), (wrap64 (x10_1 + 1)), (by first | rfl | (simp; done) | (simp [*]; done)), (by first | rfl | (simp; done) | (simp [*]; done)), H', ⟨by have := HK1.out; omega⟩, by repeat (first | exact Drawn0.refl _ | apply Drawn0.step)⟩
            · rw [if_neg c6] at H
              have c6b0 : decide (a1 < (rd l0 x10_1)) = false := decide_eq_false c6
              clear c6
              have H' := Aside0.mk H
              clear H
              have p157 : 0 ≤ (x10_1 : Int) := of_decide_eq_true (by first | (with_reducible assumption) | assumption)
              have q157 : x10_1 < (l0.length : Int) := of_decide_eq_true (by first | (with_reducible assumption) | assumption)
              obtain ⟨ad157, e157, hx157_0⟩ := Kd.at_int HR0.out x10_1 p157 q157
              cases e157
              replace p157 := eq_true p157
              replace q157 := eq_true q157
              go_wp2
              go_roundg k1
              case measure => have := HK1.out; omega
              case rel => exact ⟨(x5_1), (wrap64 (x10_1 + 1)), (by first | rfl | (simp; done) | (simp [*]; done)), (by first | rfl | (simp; done) | (simp [*]; done)), H', ⟨by have := HK1.out; omega⟩, by repeat (first | exact Drawn0.refl _ | apply Drawn0.step)⟩
          · rw [if_neg c5] at H
            exact absurd H (by simp)
        · rw [if_neg c4] at H
          exact absurd H (by simp)
      · rw [if_neg c3] at H
        have c3b0 : decide (x10_1 < (l0.length : Int)) = false := decide_eq_false c3
        clear c3
        obtain rfl := Option.some.inj H
        go_wp2
        go_ret
        exact ⟨by first | rfl | (simp; done) | (simp [*]; done), by repeat (first | exact Drawn0.refl _ | apply Drawn0.step)⟩

/-! behind impl_above -/
-- LIB Rounds
theorem above_l0 (l : List Int) (b : Int) (hl : l.length ≤ 1000000) : ∀ (r k i : Nat) (c : Int), l.length - i = r → i ≤ l.length → 0 ≤ c → c ≤ i → r < k → impl_above.l0 k b c l (l.length : Int) i = some (c + cntA b (l.drop i))
  | 0, k, i, c, hd, hi, h0, hc, hk => by
    obtain ⟨k, rfl⟩ : ∃ m, k = m + 1 := ⟨k - 1, by omega⟩
    obtain rfl : i = l.length := by omega
    rw [impl_above.l0, if_neg (by omega), List.drop_length]
    simp [cntA]
  | r + 1, k, i, c, hd, hi, h0, hc, hk => by
    obtain ⟨k, rfl⟩ : ∃ m, k = m + 1 := ⟨k - 1, by omega⟩
    have hlt : i < l.length := by omega
    have e1 : wrap64 (c + 1) = c + 1 := by unfold wrap64; omega
    have e2 : wrap64 ((i : Int) + 1) = ((i + 1 : Nat) : Int) := by clear e1; unfold wrap64; omega
    have hra : rd l (i : Int) = l[i] := by simp [rd, List.getD_eq_getElem?_getD, hlt]
    rw [impl_above.l0, if_pos (by clear e1 e2; omega), if_pos (by clear e1 e2; omega), if_pos (by clear e1 e2; omega), hra, e1, e2, List.drop_eq_getElem_cons hlt, cntA]
    by_cases hx : l[i] > b
    · rw [if_pos hx, if_pos hx, above_l0 l b hl r k (i + 1) (c + 1) (by clear e1 e2; omega) (by clear e1 e2; omega) (by clear e1 e2; omega) (by clear e1 e2; omega) (by clear e1 e2; omega)]
      congr 1; clear e1 e2; omega
    · rw [if_neg hx, if_neg hx, above_l0 l b hl r k (i + 1) c (by clear e1 e2; omega) (by clear e1 e2; omega) (by clear e1 e2; omega) (by clear e1 e2; omega) (by clear e1 e2; omega)]
theorem above_is (l : List Int) (b : Int) (hl : l.length ≤ 1000000) (k : Nat) (hk : l.length < k) : impl_above.f k l b = some (cntA b l : Nat) := by
  have := above_l0 l b hl l.length k 0 0 (by omega) (by omega) (by omega) (by omega) hk
  unfold impl_above.f
  simpa using this

/-! ### impl_shifted: function 41 -/
def impl_shifted.l0 : Nat → Int → List Int → List Int → Int → Int → Option (List Int)
  | 0, _, _, _, _, _ => none
  | k + 1, x1, x5, x9, x10, x11 => if x11 < x10 then (if 0 ≤ x11 then (if x11 < (x9.length : Int) then (if x5.length < 17592186044416 then (impl_shifted.l0 k x1 (x5 ++ [wrap64 ((rd x9 x11) + x1)]) x9 x10 (wrap64 (x11 + 1))) else (none)) else (none)) else (none)) else (some x5)
def impl_shifted.f (k : Nat) (l0 : List Int) (a1 : Int) : Option (List Int) := impl_shifted.l0 k a1 (([] : List Int)) l0 (l0.length : Int) 0
theorem impl_shifted.mono_l : ∀ k, (∀ y0 y1 y2 y3 y4, LeO (impl_shifted.l0 k y0 y1 y2 y3 y4) (impl_shifted.l0 (k + 1) y0 y1 y2 y3 y4))
  | 0 => fun _ _ _ _ _ r h => by simp [impl_shifted.l0] at h
  | k + 1 => by
    have ih0 := impl_shifted.mono_l k
    · intro y0 y1 y2 y3 y4
      unfold impl_shifted.l0
      repeat' first
      | (with_reducible exact ih0 _ _ _ _ _)
      | (with_reducible exact LeO.refl _)
      | (with_reducible exact LeO.none _)
      | (with_reducible refine LeO.ite ?_ ?_)
      | (with_reducible refine LeO.bind ?_ (fun _ => ?_))
      | exact ih0 _ _ _ _ _
      | exact LeO.none _
      | refine LeO.ite ?_ ?_
      | refine LeO.bind ?_ (fun _ => ?_)
theorem impl_shifted.mono : ∀ a0 a1 k, LeO (impl_shifted.f k a0 a1) (impl_shifted.f (k + 1) a0 a1) := by
  intro a0 a1 k
  have ih0 := impl_shifted.mono_l k
  unfold impl_shifted.f
  repeat' first
      | (with_reducible exact ih0 _ _ _ _ _)
      | (with_reducible exact LeO.refl _)
      | (with_reducible exact LeO.none _)
      | (with_reducible refine LeO.ite ?_ ?_)
      | (with_reducible refine LeO.bind ?_ (fun _ => ?_))
      | exact ih0 _ _ _ _ _
      | exact LeO.none _
      | refine LeO.ite ?_ ?_
      | refine LeO.bind ?_ (fun _ => ?_)
set_option maxHeartbeats 8000000 in
set_option maxRecDepth 100000 in
theorem impl_shifted.calls (k : Nat) (A0 : Option Addr) (c0 : Nat) (l0 : List Int) (a1 : Int) (r : List Int) (w : World) (hr0 : Kd.C (Kd.int .i64) w A0 l0.length l0) (hc0 : l0.length ≤ c0) (h : impl_shifted.f k l0 a1 = some r) :
    Calls Try.prog 41 #[.slice A0 l0.length c0, .int .i64 a1] w fun e w' => ∃ v0_ : Value, e = .returned (v0_) ∧ Kd.R (Kd.int .i64) 3 w' w.heap.size (fun _ => True) v0_ r ∧ Below w.heap.size w w' := by
  have HR0 := Aside0.mk hr0
  have HC0 := Aside0.mk hc0
  clear hr0 hc0
  have HB := Aside0.mk (Below.refl w.heap.size w)
  have H : (impl_shifted.l0 k a1 (([] : List Int)) l0 (l0.length : Int) 0) = some r := h
  clear h
  obtain ⟨y158, hy158⟩ : ∃ y_ : List Int, y_ = (([] : List Int)) := ⟨_, rfl⟩
  replace H : (impl_shifted.l0 k a1 y158 l0 (l0.length : Int) 0) = some r := by first | (rw [hy158]; with_reducible exact H) | (have H2_ := (Option.bind_some _ _).symm.trans H; rw [hy158]; with_reducible exact H2_) | (have H2_ := (Option.bind_some _ _).symm.trans H; with_reducible exact H2_) | with_reducible exact H | (rw [hy158]; exact H) | exact H
  have Ny158 := Aside0.mk hy158
  clear hy158
  have H' := Aside0.mk H
  clear H
  go_enter Try.func41, Try.ntmps41
  go_wp2_with (first | ((with_reducible refine gate_dst (N := 8) rfl ?_); refine Kd.R_lit (Kd.int .i64) _ 3 ?hg (N := 8) ?hd (xs := ([] : List Int)) (inner := []) (ok := fun _ => True) (okp := fun _ => True) ?hr ?hp (fun _ hk => hk) trivial (Below.refl _ _) (Nat.le_refl _) (by simp) ?_; (case hd => rfl); (case hg => rfl); (case hr => first | (go_simp; done) | (go_simp; rfl)); (case hp => exact (Reps.none _ _)); intro v159 w3 ho4 hb hg_ hnew_; clear hg_ hnew_; (first | rw [← Ny158.out] at ho4 | (simp only [Int.reduceToNat] at ho4; rw [← Ny158.out] at ho4)); have n0_ := Aside0.mk (Kd.R_lower ho4 (below_size (by repeat (first | (with_reducible first | exact HB.out | apply below_alloc | apply pw_below_drewN | apply below_drew1) | exact HB.out)))); have n1_ := Aside0.mk (below_step (by repeat (first | (with_reducible first | exact HB.out | apply below_alloc | apply pw_below_drewN | apply below_drew1) | exact HB.out)) hb); clear HB; have HO160 := n0_; have HB := n1_; clear n0_ n1_; clear hb ho4))
  go_loopg [5, 11] k (fun kq v5 v11 w' => ∃ (x5_1 : List Int) (x11_1 : Int), v11 = .int .i64 x11_1 ∧ Aside0 (impl_shifted.l0 kq a1 x5_1 l0 (l0.length : Int) x11_1 = some r) ∧ Aside0 (kq ≤ k) ∧ Aside0 (Kd.R (Kd.int .i64) 3 w' w.heap.size (fun _ => True) v5 x5_1) ∧ Aside0 (Below w.heap.size w w'))
  case atStart => exact ⟨(y158), (0), (by first | rfl | (simp; done) | (simp [*]; done)), H', ⟨Nat.le_refl _⟩, ⟨by (with_reducible repeat (first | apply Kd.R_alloc | apply Kd.R_drewN | apply Kd.R_drew)); exact HO160.out⟩, ⟨by repeat (first | (with_reducible first | exact HB.out | apply below_alloc | apply pw_below_drewN | apply below_drew1) | exact HB.out)⟩⟩
  case round =>
    clear H'
    try clear p2
    try clear c4
    obtain ⟨x5_1, x11_1, rfl, HA, HK1, HO_5, HB⟩ := hrel
    cases gk with
    | zero => exact absurd HA.out (by simp [impl_shifted.l0])
    | succ k1 =>
      have H := HA.out
      clear HA
      simp only [impl_shifted.l0] at H
      by_cases c5 : x11_1 < (l0.length : Int)
      · rw [if_pos c5] at H
        have c5b0 : decide (x11_1 < (l0.length : Int)) = true := decide_eq_true c5
        clear c5
        by_cases c6 : 0 ≤ x11_1
        · rw [if_pos c6] at H
          have c6b0 : decide (0 ≤ x11_1) = true := decide_eq_true c6
          clear c6
          by_cases c7 : x11_1 < (l0.length : Int)
          · rw [if_pos c7] at H
            have c7b0 : decide (x11_1 < (l0.length : Int)) = true := decide_eq_true c7
            clear c7
            by_cases c8 : x5_1.length < 17592186044416
            · rw [if_pos c8] at H
              have LMc8 := Aside0.mk c8
              clear c8
              obtain ⟨y162, hy162⟩ : ∃ y_ : List Int, y_ = (x5_1 ++ [wrap64 ((rd l0 x11_1) + a1)]) := ⟨_, rfl⟩
              replace H : (impl_shifted.l0 k1 a1 y162 l0 (l0.length : Int) (wrap64 (x11_1 + 1))) = some r := by first | (rw [hy162]; with_reducible exact H) | (have H2_ := (Option.bind_some _ _).symm.trans H; rw [hy162]; with_reducible exact H2_) | (have H2_ := (Option.bind_some _ _).symm.trans H; with_reducible exact H2_) | with_reducible exact H | (rw [hy162]; exact H) | exact H
              have Ny162 := Aside0.mk hy162
              clear hy162
              have H' := Aside0.mk H
              clear H
              have p161 : 0 ≤ (x11_1 : Int) := of_decide_eq_true (by first | (with_reducible assumption) | assumption)
              have q161 : x11_1 < (l0.length : Int) := of_decide_eq_true (by first | (with_reducible assumption) | assumption)
              obtain ⟨ad161, e161, hx161_0⟩ := Kd.at_int HR0.out x11_1 p161 q161
              cases e161
              replace hx161_0 := (HB.out.cell (World.block_lt_of_cell? w _ hx161_0)).trans hx161_0
              replace p161 := eq_true p161
              replace q161 := eq_true q161
              go_wp2_with (first | ((with_reducible refine gate_builtin (b := .append) (xs := #[.tmp 15, .tmp 19]) rfl ?_); at_builtin; refine Kd.R_append (Kd.int .i64) (w0 := w) w.heap.size rfl (.tmp 15) (.tmp 19) 25 3 (.int .i64 0) 8 rfl Try.underlying25 info3 rfl (by decide) (by omega) u5 x5_1 (wrap64 ((rd l0 x11_1) + a1)) [.int .i64 (wrap64 ((rd l0 x11_1) + a1))] (fun _ => True) (fun _ => False) rfl rfl ?aP (fun _ hk => hk.elim) ?aF ?aO ?aB ?aS ?aL ?_; (case aP => exact rfl); (case aB => exact (by repeat (first | (with_reducible first | exact HB.out | apply below_alloc | apply pw_below_drewN | apply below_drew1) | exact HB.out))); (case aF => exact (fun _ _ => trivial)); (case aO => exact (by (with_reducible repeat (first | apply Kd.R_alloc | apply Kd.R_drewN | apply Kd.R_drew)); exact HO_5.out)); (case aS => exact (below_size (by repeat (first | (with_reducible first | exact HB.out | apply below_alloc | apply pw_below_drewN | apply below_drew1) | exact HB.out)))); (case aL => have := LMc8.out; omega); intro v163 w9 ho hb hg hat; rw [← Ny162.out] at ho; have n0_ := Aside0.mk (hb); have n1_ := Aside0.mk (ho); clear HB; clear HO_5; have HB := n0_; have HO164 := n1_; clear n0_ n1_; clear ho hb hg hat))
              go_roundg k1
              case measure => have := HK1.out; omega
              case rel => exact ⟨(y162), (wrap64 (x11_1 + 1)), (by first | rfl | (simp; done) | (simp [*]; done)), H', ⟨by have := HK1.out; omega⟩, ⟨by (with_reducible repeat (first | apply Kd.R_alloc | apply Kd.R_drewN | apply Kd.R_drew)); exact HO164.out⟩, ⟨by repeat (first | (with_reducible first | exact HB.out | apply below_alloc | apply pw_below_drewN | apply below_drew1) | exact HB.out)⟩⟩
            · rw [if_neg c8] at H
              exact absurd H (by simp)
          · rw [if_neg c7] at H
            exact absurd H (by simp)
        · rw [if_neg c6] at H
          exact absurd H (by simp)
      · rw [if_neg c5] at H
        have c5b0 : decide (x11_1 < (l0.length : Int)) = false := decide_eq_false c5
        clear c5
        obtain rfl := Option.some.inj H
        go_wp2
        go_ret
        exact ⟨_, by first | rfl | (simp [errW_none, errW_some] <;> rfl) | (simp [*, errW_none, errW_some] <;> rfl), by (with_reducible repeat (first | apply Kd.R_alloc | apply Kd.R_drewN | apply Kd.R_drew)); exact HO_5.out, by repeat (first | (with_reducible first | exact HB.out | apply below_alloc | apply pw_below_drewN | apply below_drew1) | exact HB.out)⟩

/-! behind impl_shifted -/
-- LIB Rounds
theorem shifted_l0 (l : List Int) (d : Int) (hl : l.length ≤ 1000000) (hb : ∀ x ∈ l, -1000000000 ≤ x + d ∧ x + d ≤ 1000000000) : ∀ (r k i : Nat), l.length - i = r → i ≤ l.length → r < k → impl_shifted.l0 k d (shiftR d (l.take i)) l (l.length : Int) i = some (shiftR d l)
  | 0, k, i, hd, hi, hk => by
    obtain ⟨k, rfl⟩ : ∃ m, k = m + 1 := ⟨k - 1, by omega⟩
    obtain rfl : i = l.length := by omega
    rw [impl_shifted.l0, if_neg (by omega), List.take_length]
  | r + 1, k, i, hd, hi, hk => by
    obtain ⟨k, rfl⟩ : ∃ m, k = m + 1 := ⟨k - 1, by omega⟩
    have hlt : i < l.length := by omega
    have hbx := hb l[i] (List.getElem_mem hlt)
    have e1 : wrap64 (l[i] + d) = l[i] + d := by unfold wrap64; omega
    have e2 : wrap64 ((i : Int) + 1) = ((i + 1 : Nat) : Int) := by clear e1; unfold wrap64; omega
    have hra : rd l (i : Int) = l[i] := by simp [rd, List.getD_eq_getElem?_getD, hlt]
    have ih := shifted_l0 l d hl hb r k (i + 1) (by clear e1 e2; omega) (by clear e1 e2; omega) (by clear e1 e2; omega)
    have hs : shiftR d (l.take i) ++ [l[i] + d] = shiftR d (l.take (i + 1)) := by
      rw [List.take_succ_eq_append_getElem hlt]; unfold shiftR; rw [List.map_append]; rfl
    rw [impl_shifted.l0, if_pos (by clear e1 e2; omega), if_pos (by clear e1 e2; omega), if_pos (by clear e1 e2; omega), if_pos (by rw [shiftR_len, List.length_take]; clear e1 e2; omega), hra, e1, e2, hs]
    exact ih
theorem shifted_is (l : List Int) (d : Int) (hl : l.length ≤ 1000000) (hb : ∀ x ∈ l, -1000000000 ≤ x + d ∧ x + d ≤ 1000000000) (k : Nat) (hk : l.length < k) : impl_shifted.f k l d = some (shiftR d l) := by
  have := shifted_l0 l d hl hb l.length k 0 (by omega) (by omega) hk
  unfold impl_shifted.f
  simpa [shiftR] using this

/-! ### impl_roundReaches_fewest: function 49, a contract of our own -/
set_option maxHeartbeats 8000000 in
set_option maxRecDepth 100000 in
theorem fewestR_calls (g h e : Nat) (n : Int) (w : World) (he : e ≤ 10) (hI : IsRR w g h) :
    Calls Try.prog 49 #[.pointer (some ⟨g, 0, none⟩), .int .i64 e, .int .i64 n] w fun e' w' => e' = .returned (.int .i64 (fewR h e n)) ∧ w = w' := by
  have HI := Aside0.mk hI
  have hz2 : (e : Int) < 11 := by omega
  clear hI
  go_enter Try.func49, Try.ntmps49
  go_wp2
  go_loopg [7, 8] 1001 (fun gg _ v8 wr => ∃ t : Nat, t ≤ 1001 ∧ 1001 - t ≤ gg ∧ v8 = .int .i64 t ∧ Aside0 (∀ s, s < t → ¬ n ≤ rr h s e) ∧ w = wr)
  case atStart => exact ⟨0, by omega, by omega, rfl, ⟨fun s hs => absurd hs (Nat.not_lt_zero _)⟩, rfl⟩
  case round =>
    obtain ⟨t, ht, hgg, rfl, HN, rfl⟩ := hrel
    by_cases hlt : t < 1001
    · have hltz : (t : Int) < 1001 := by omega
      have hx := HI.out.at_ t e (by omega) he
      by_cases hc : n ≤ rr h t e
      · have hf := fewR_eq h e n t (by omega) HN.out (fun _ => hc)
        have HF := Aside0.mk hf
        have hd : decide (n ≤ rr h t e) = true := decide_eq_true hc
        clear hf hc
        generalize rr h t e = x at hx hd
        go_wp2
        go_ret
        exact ⟨by rw [HF.out]; rfl, rfl⟩
      · have hd : decide (n ≤ rr h t e) = false := decide_eq_false hc
        have HN2 : Aside0 (∀ s, s < t + 1 → ¬ n ≤ rr h s e) := ⟨fun s hs => by
          by_cases hst : s = t
          · subst hst; exact hc
          · exact HN.out s (by omega)⟩
        clear hc
        generalize rr h t e = x at hx hd
        go_wp2
        go_roundg (1001 - (t + 1))
        case measure => omega
        case rel => exact ⟨t + 1, by omega, by omega, by go_num, HN2, rfl⟩
    · have hltz : ¬ (t : Int) < 1001 := by omega
      have hf := fewR_eq h e n 1000 (by omega) (fun s hs => HN.out s (by omega)) (fun h => absurd h (by omega))
      have HF := Aside0.mk hf
      clear hf
      go_wp2
      go_ret
      exact ⟨by rw [HF.out]; rfl, rfl⟩

/-! ### impl_roundReaches_firstOf: function 50, a contract of our own -/
theorem IsRR.grown {w w1 : World} {g h : Nat} {u : Value} {base : Nat} {ok : Nat → Prop} {xs : List Int} (x : IsRR w g h) (ho : (Kd.int .i64).R 3 w base ok u xs) (hg : w.grownBy w1 u.ownBlock) : IsRR w1 g h :=
  ⟨blk_grown x.out hg (fun he => by
    obtain ⟨c, hc⟩ := Kd.R_typed ho g he.symm
    rw [x.out] at hc
    injection hc with hc
    injection hc with _ h3
    exact absurd h3 (by decide))⟩
set_option maxHeartbeats 8000000 in
set_option maxRecDepth 100000 in
theorem firstOf_calls (g h e s m : Nat) (n : Int) (w : World) (hI : IsRR w g h) (he : e ≤ 10) (hs : s ≤ 999) (hn0 : 0 ≤ n) (hn : n ≤ 1000) (hm : m ≤ e) :
    Calls Try.prog 50 #[.pointer (some ⟨g, 0, none⟩), .int .i64 ((s : Int) + 1), .int .i64 e, .int .i64 n, .int .i64 m] w fun e' w' => ∃ v, e' = .returned (.tuple #[v, .bool (fOf (rr h s) e n m [] 0).isSome]) ∧ Kd.R (Kd.int .i64) 3 w' w.heap.size (fun _ => True) v ((fOf (rr h s) e n m [] 0).getD []) ∧ Below w.heap.size w w' := by
  generalize hres : fOf (rr h s) e n m [] 0 = res
  have HB := Aside0.mk (Below.refl w.heap.size w)
  have HI := Aside0.mk hI
  have HRES := Aside0.mk hres
  have hzs : (s : Int) < 1001 := by omega
  clear hI hres
  go_enter Try.func50, Try.ntmps50
  go_wp2_with ((with_reducible refine gate_dst (N := 16) rfl ?_); refine Kd.R_lit (Kd.int .i64) _ 3 ?hg (N := 16) ?hd (xs := ([] : List Int)) (inner := []) (ok := fun _ => True) (okp := fun _ => True) ?hr ?hp (fun _ hk => hk) trivial (Below.refl _ _) (Nat.le_refl _) (by simp) ?_; (case hd => rfl); (case hg => rfl); (case hr => first | (go_simp; done) | (go_simp; rfl)); (case hp => exact (Reps.none _ _)); intro vl_ wl_ ho4 hb hg_ hnew_; clear hg_ hnew_; have HI := Aside0.mk (IsRR.below HI.out hb); have n0_ := Aside0.mk (Kd.R_lower ho4 (below_size (by repeat (first | (with_reducible first | exact HB.out | apply below_alloc | apply pw_below_drewN | apply below_drew1) | exact HB.out)))); have n1_ := Aside0.mk (below_step (by repeat (first | (with_reducible first | exact HB.out | apply below_alloc | apply pw_below_drewN | apply below_drew1) | exact HB.out)) hb); clear HB; have HO := n0_; have HB := n1_; clear n0_ n1_; clear hb ho4)
  go_loopg [12, 13, 14, 15] m (fun gg v12 v13 v14 _ wr => ∃ (l : Nat) (z last : Int) (out : List Int), v14 = .int .i64 z ∧ v13 = .int .i64 last ∧ z = (l : Int) - 1 ∧ l ≤ m ∧ l ≤ gg ∧ 0 ≤ last ∧ last ≤ n ∧ Aside0 (out.length + l = m) ∧ Aside0 (fOf (rr h s) e n l out last = res) ∧ Aside0 (IsRR wr g h) ∧ Aside0 (Kd.R (Kd.int .i64) 3 wr w.heap.size (fun _ => True) v12 out) ∧ Aside0 (Below w.heap.size w wr))
  case atStart => exact ⟨m, (m : Int) - 1, 0, [], by go_num, rfl, rfl, Nat.le_refl _, Nat.le_refl _, Int.le_refl _, hn0, ⟨by simp⟩, HRES, HI, HO, HB⟩
  case round =>
    clear HI HO HB HRES
    obtain ⟨l, z, last, out, rfl, rfl, hz, hl, hgg, hla0, hla1, HLEN, HRES, HI, HO, HB⟩ := hrel
    cases l with
    | zero =>
      obtain rfl : z = -1 := by omega
      have HR : Aside0 (some out = res) := ⟨HRES.out⟩
      clear HRES hz
      go_wp2
      go_ret2
      exact ⟨_, by rw [← HR.out]; rfl, by rw [← HR.out]; exact HO.out, HB.out⟩
    | succ q =>
      obtain rfl : z = (q : Int) := by omega
      clear hz
      have hres := HRES.out
      rw [fOf_step] at hres
      have hsr := sumR_range (rr h s) (rr_range h s) e (q + 1)
      have hcr : 0 ≤ covR (rr h s) e q ∧ covR (rr h s) e q ≤ 20000000000 := by unfold covR; omega
      have HCV : Aside0 (∀ W : World, IsRR W g h → Calls Try.prog 40 #[.pointer (some ⟨g, 0, none⟩), .int .i64 ((s : Int) + 1), .int .i64 e, .int .i64 q] W fun e' w' => e' = .returned (.int .i64 (covR (rr h s) e q)) ∧ W = w') :=
        ⟨fun W hI => cover_calls g s e q (rr h s) W (fun j hj => hI.at_ s j (by omega) hj) (rr_range h s) he (by omega) hs⟩
      have hx := HI.out.at_ s (e - q - 1) (by omega) (by omega)
      have hxr := rr_range h s (e - q - 1)
      generalize rr h s (e - q - 1) = x at hx hxr hres
      generalize covR (rr h s) e q = c at hres hcr HCV
      have hmx : (if last + 1 < n - c then n - c else last + 1) = max (last + 1) (n - c) := by split <;> omega
      have hfr : last + 1 ≤ max (last + 1) (n - c) ∧ max (last + 1) (n - c) ≤ 1001 := by omega
      generalize max (last + 1) (n - c) = f at hres hmx hfr
      have hz0 : (0 : Int) ≤ (e : Int) - (q : Int) - 1 := by omega
      have hz1 : (e : Int) - (q : Int) - 1 < 11 := by omega
      have hz2 : ((e : Int) - (q : Int) - 1).toNat = e - q - 1 := by omega
      have hzn : n ≤ 1000 := hn
      obtain ⟨hw1, hw2, hw3, hw4, hw5, hw6⟩ : IntKind.i64.wrap (last + 1) = last + 1 ∧ IntKind.i64.wrap (n - c) = n - c ∧ IntKind.i64.wrap (f - last) = f - last ∧ IntKind.i64.wrap (f - last - 1) = f - last - 1 ∧ IntKind.i64.wrap ((e : Int) - (q : Int)) = (e : Int) - (q : Int) ∧ IntKind.i64.wrap ((e : Int) - (q : Int) - 1) = (e : Int) - (q : Int) - 1 := by
        clear hmx
        refine ⟨?_, ?_, ?_, ?_, ?_, ?_⟩ <;> (rw [i64_w]; unfold wrap64; omega)
      have HLN : Aside0 (out.length ≤ 100) := ⟨by have := HLEN.out; clear hw1 hw2 hw3 hw4 hw5 hw6; omega⟩
      have HLE2 : Aside0 (out.length + 1 + q = m) := ⟨by have := HLEN.out; clear hw1 hw2 hw3 hw4 hw5 hw6; omega⟩
      clear HRES hsr HLEN
      by_cases c1 : f > n
      · rw [if_pos (Or.inl c1)] at hres
        have HR := Aside0.mk hres
        have hd1 : decide (n < f) = true := decide_eq_true c1
        clear hres c1
        go_wp2_with (go_at_call 40; refine (HCV.out _ HI.out).mono ?_; rintro e_ w_ ⟨rfl, rfl⟩)
        go_ret2
        exact ⟨_, by rw [← HR.out]; rfl, by rw [← HR.out]; exact Kd.R_nil _ _ _ _ _, HB.out⟩
      · have hd1 : decide (n < f) = false := decide_eq_false (by clear hw1 hw2 hw3 hw4 hw5 hw6; omega)
        by_cases c2 : f - last - 1 > x
        · rw [if_pos (Or.inr c2)] at hres
          have HR := Aside0.mk hres
          have hd2 : decide (x < f - last - 1) = true := decide_eq_true c2
          clear hres c1 c2
          go_wp2_with (go_at_call 40; refine (HCV.out _ HI.out).mono ?_; rintro e_ w_ ⟨rfl, rfl⟩)
          go_ret2
          exact ⟨_, by rw [← HR.out]; rfl, by rw [← HR.out]; exact Kd.R_nil _ _ _ _ _, HB.out⟩
        · rw [if_neg (fun h => h.elim c1 c2)] at hres
          have hd2 : decide (x < f - last - 1) = false := decide_eq_false (by clear hw1 hw2 hw3 hw4 hw5 hw6; omega)
          obtain ⟨out2, ho2⟩ : ∃ out2, out2 = out ++ [f] := ⟨_, rfl⟩
          rw [← ho2] at hres
          have HR := Aside0.mk hres
          have Hy := Aside0.mk ho2
          have HFN : Aside0 (f ≤ n) := ⟨by clear hw1 hw2 hw3 hw4 hw5 hw6; omega⟩
          have HF0 : Aside0 (0 ≤ f) := ⟨by clear hw1 hw2 hw3 hw4 hw5 hw6; omega⟩
          clear hres ho2 c1 c2
          go_wp2_with (first
            | (go_at_call 40; refine (HCV.out _ HI.out).mono ?_; rintro e_ w_ ⟨rfl, rfl⟩)
            | ((with_reducible refine gate_builtin (b := .append) (xs := #[.tmp 55, .tmp 57]) rfl ?_); at_builtin; refine Kd.R_append (Kd.int .i64) (w0 := w) w.heap.size rfl (.tmp 55) (.tmp 57) 25 3 (.int .i64 0) 8 rfl Try.underlying25 info3 rfl (by decide) (by omega) _ out f [.int .i64 f] (fun _ => True) (fun _ => False) rfl rfl ?aP (fun _ hk => hk.elim) ?aF ?aO ?aB ?aS ?aL ?_; (case aP => exact rfl); (case aB => exact (by repeat (first | (with_reducible first | exact HB.out | apply below_alloc | apply pw_below_drewN | apply below_drew1) | exact HB.out))); (case aF => exact (fun _ _ => trivial)); (case aO => exact (by (with_reducible repeat (first | apply Kd.R_alloc | apply Kd.R_drewN | apply Kd.R_drew)); exact HO.out)); (case aS => exact (below_size (by repeat (first | (with_reducible first | exact HB.out | apply below_alloc | apply pw_below_drewN | apply below_drew1) | exact HB.out)))); (case aL => (have := HLN.out; omega)); intro va_ wa_ ho hb hg hat; rw [← Hy.out] at ho; have HI := Aside0.mk (IsRR.grown HI.out HO.out hg); have n0_ := Aside0.mk (hb); have n1_ := Aside0.mk (ho); clear HB; clear HO; have HB := n0_; have HO := n1_; clear n0_ n1_; clear ho hb hg hat))
          go_roundg q
          case measure => omega
          case rel => exact ⟨q, (q : Int) - 1, f, out2, by go_num, rfl, rfl, by clear hw1 hw2 hw3 hw4 hw5 hw6; omega, Nat.le_refl _, HF0.out, HFN.out, ⟨by have h1 := HLE2.out; have h2 : out2.length = out.length + 1 := (by rw [Hy.out]; simp); clear hw1 hw2 hw3 hw4 hw5 hw6; omega⟩, HR, HI, HO, HB⟩

/-! ### cmp_isNaN_int: function 55 -/
def cmp_isNaN_int.f (a0 : Int) : Option (Bool) := some (a0 != a0)
set_option maxHeartbeats 8000000 in
set_option maxRecDepth 100000 in
theorem cmp_isNaN_int.calls (a0 : Int) (r : Bool) (w : World) (h : cmp_isNaN_int.f a0 = some r) :
    Calls Try.prog 55 #[.int .i64 a0] w fun e w' => e = .returned (.bool r) ∧ Drawn0 w w' := by
  have H : (some (a0 != a0)) = some r := h
  clear h
  obtain rfl := Option.some.inj H
  go_enter Try.func55, Try.ntmps55
  go_wp2
  go_ret
  exact ⟨by first | rfl | (simp; done) | (simp [*]; done), by repeat (first | exact Drawn0.refl _ | apply Drawn0.step)⟩

set_option maxHeartbeats 8000000 in
set_option maxRecDepth 100000 in
theorem cmp_isNaN_int.calls0 (a0 : Int) (r : Bool) (w : World) (h : cmp_isNaN_int.f a0 = some r) :
    Calls Try.prog 55 #[.int .i64 a0] w fun e w' => e = .returned (.bool r) ∧ w = w' := by
  have H : (some (a0 != a0)) = some r := h
  clear h
  obtain rfl := Option.some.inj H
  go_enter Try.func55, Try.ntmps55
  go_wp2
  go_ret
  exact ⟨by first | rfl | (simp; done) | (simp [*]; done), by first | rfl | simp⟩

end Go.Proofs.Ytbiibhfcclfoiaa.PrintA
