-- written by this session's own driver (wip/gen.py) with the kit's print and contracts of our own
import Derived.Test.YtmclbiollhdbjaaPrintY0
import Derived.Test.YtmclbiollhdbjaaPrintY1
import Derived.Test.YtmclbiollhdbjaaPrintY6
import Derived.Test.YtmclbiollhdbjaaPrintY9
import Derived.Test.YtmclbiollhdbjaaPrintY10
import Derived.BigRegion
namespace Go.Proofs.Ytmclbiollhdbjaa.PrintY
open Go.RowKit Go.Proofs.YtmclbiollhdbjaaLib Go.Proofs.YtmclbiollhdbjaaW.PrintWords Go.Proofs.YtmclbiollhdbjaaW.PrintLast Go.Proofs.YtmclbiollhdbjaaW.PrintMore
attribute [local go_sem] max2_int min2_int max_two min_two max_three min_three max_four min_four   -- for this text's walks alone
set_option linter.unusedVariables false
set_option linter.unusedSimpArgs false

/-! ### impl_parts: function 43 -/
def impl_parts.f (k : Nat) (l0 : List Int) : Option (List Int × List Int) := if 0 < (l0.length : Int) then (if 1 ≤ (rd l0 0) then (if (rd l0 0) ≤ (l0.length : Int) then ((slices_Clone_int_int.f ((l0.take ((rd l0 0) : Int).toNat).drop 1)).bind fun t166 => (if 0 ≤ (rd l0 0) then ((impl_shifted.f k (l0.drop ((rd l0 0) : Int).toNat) (wrap64 (-(rd l0 0)))).bind fun t170 => (some (t166, t170))) else (none))) else (none)) else (none)) else (none)
theorem impl_parts.mono : ∀ a0 k, LeO (impl_parts.f k a0) (impl_parts.f (k + 1) a0) := by
  intro a0 k
  unfold impl_parts.f
  repeat' first
      | (with_reducible exact impl_shifted.mono _ _ _)
      | (with_reducible exact LeO.refl _)
      | (with_reducible exact LeO.none _)
      | (with_reducible refine LeO.ite ?_ ?_)
      | (with_reducible refine LeO.bind ?_ (fun _ => ?_))
      | exact impl_shifted.mono _ _ _
      | exact LeO.none _
      | refine LeO.ite ?_ ?_
      | refine LeO.bind ?_ (fun _ => ?_)
def impl_parts.T2 : Bool × List (List Nat × List Nat) := (true, [([], []), ([], []), ([0, 1], [0, 1]), ([2], [2]), ([], []), ([], []), ([4, 5], [4, 5]), ([], []), ([7], [7]), ([6, 8, 3], [6, 8]), ([3, 9, 0, 1, 2, 3], [3]), ([9, 10, 0, 1, 2, 3, 4, 5, 6, 7, 8, 9, 10], [9])])
def impl_parts.B2 : List Nat := [0, 0, 3, 7, 0, 0, 48, 0, 128, 511, 1023, 2047]
theorem impl_parts.tab2 : rtab .any (opsOf Try.f43 2) = impl_parts.T2 := by kernel_rfl
theorem impl_parts.bits2 : waitsOk impl_parts.T2.2 impl_parts.B2 = true := by kernel_rfl
set_option maxHeartbeats 8000000 in
set_option maxRecDepth 100000 in
theorem impl_parts.calls (k : Nat) (A0 : Option Addr) (c0 : Nat) (l0 : List Int) (r1 : List Int) (r2 : List Int) (w : World) (hr0 : Kd.C (Kd.int .i64) w A0 l0.length l0) (hc0 : l0.length ≤ c0) (h : impl_parts.f k l0 = some (r1, r2)) :
    Calls Try.prog 43 #[.slice A0 l0.length c0] w fun e w' => ∃ v0_ v1_ : Value, e = .returned (.tuple #[v0_, v1_]) ∧ Kd.R (Kd.int .i64) 3 w' w.heap.size (fun k_ => some k_ ≠ (v1_ : Value).ownBlock) v0_ r1 ∧ Kd.R (Kd.int .i64) 3 w' w.heap.size (fun k_ => some k_ ≠ (v0_ : Value).ownBlock) v1_ r2 ∧ Below w.heap.size w w' := by
  have HR0 := Aside0.mk hr0
  have HC0 := Aside0.mk hc0
  clear hr0 hc0
  have HB := Aside0.mk (Below.refl w.heap.size w)
  have H : (if 0 < (l0.length : Int) then (if 1 ≤ (rd l0 0) then (if (rd l0 0) ≤ (l0.length : Int) then ((slices_Clone_int_int.f ((l0.take ((rd l0 0) : Int).toNat).drop 1)).bind fun t166 => (if 0 ≤ (rd l0 0) then ((impl_shifted.f k (l0.drop ((rd l0 0) : Int).toNat) (wrap64 (-(rd l0 0)))).bind fun t170 => (some (t166, t170))) else (none))) else (none)) else (none)) else (none)) = some (r1, r2) := h
  clear h
  by_cases c2 : 0 < (l0.length : Int)
  · rw [if_pos c2] at H
    have c2b0 : decide (0 < (l0.length : Int)) = true := decide_eq_true c2
    have c2b1 : decide (0 < l0.length) = true := decide_eq_true (by omega)
    clear c2
    by_cases c3 : 1 ≤ (rd l0 0)
    · rw [if_pos c3] at H
      have c3b0 := eq_true c3
      have c3b1 : decide (1 ≤ (rd l0 0)) = true := decide_eq_true c3
      clear c3
      by_cases c4 : (rd l0 0) ≤ (l0.length : Int)
      · rw [if_pos c4] at H
        have c4b0 := eq_true c4
        have c4b1 : decide ((rd l0 0) ≤ (l0.length : Int)) = true := decide_eq_true c4
        clear c4
        replace H := Option.bind_eq_some_iff.mp H
        obtain ⟨t166, A50, H⟩ := H
        replace H : (if 0 ≤ (rd l0 0) then ((impl_shifted.f k (l0.drop ((rd l0 0) : Int).toNat) (wrap64 (-(rd l0 0)))).bind fun t170 => (some (t166, t170))) else (none)) = some (r1, r2) := H
        have A5 := Aside0.mk A50
        clear A50
        by_cases c6 : 0 ≤ (rd l0 0)
        · rw [if_pos c6] at H
          have c6b0 := eq_true c6
          have c6b1 : decide (0 ≤ (rd l0 0)) = true := decide_eq_true c6
          clear c6
          have c7b0 := eq_true (of_decide_eq_true (by first | (with_reducible assumption) | assumption) : (rd l0 0) ≤ (l0.length : Int))
          replace H := Option.bind_eq_some_iff.mp H
          obtain ⟨t170, A80, H⟩ := H
          replace H : (some (t166, t170)) = some (r1, r2) := H
          have A8 := Aside0.mk A80
          clear A80
          simp only [Option.some.injEq, Prod.mk.injEq] at H
          obtain ⟨rfl, rfl⟩ := H
          have p164 : 0 ≤ (0 : Int) := (by omega)
          have q164 : 0 < (l0.length : Int) := of_decide_eq_true (by first | (with_reducible assumption) | assumption)
          obtain ⟨ad164, e164, hx164_0⟩ := Kd.at_int HR0.out 0 p164 q164
          cases e164
          have qi164 : (0 < l0.length) = True := eq_true (by omega)
          (try rw [show ((0 : Int)).toNat = 0 from rfl] at hx164_0)
          (try rw [Addr.add_zero'] at hx164_0)
          replace p164 := eq_true p164
          replace q164 := eq_true q164
          go_enter Try.func43, Try.ntmps43
          try go_wp2
          have n0_ := Aside0.mk (below_drew1 HB.out)
          clear HB
          have HB := n0_
          clear n0_
          obtain ⟨i010, hi010, _, hsz10, _⟩ := info_parts info3
          obtain ⟨A10, hcut10, hA10, hC10⟩ := print_mid_of (P := Try.prog) (Value.int .i64) 0 22 3 .i64 .i64 Try.underlying22 hi010 hsz10 (some ad164) c0 l0 1 (rd l0 0) (by omega) (by first | omega | exact of_decide_eq_true (by first | (with_reducible assumption) | assumption)) (of_decide_eq_true (by first | (with_reducible assumption) | assumption)) HC0.out
          have HR165 := Aside0.mk (Kd.C_of_reads (h1 := fun _ => rfl) (hA10 _ (Kd.reads_of_C HR0.out)))
          have HC165 := Aside0.mk hC10
          clear hA10 hC10 hi010 hsz10
          obtain ⟨i011, hi011, _, hsz11, _⟩ := info_parts info3
          obtain ⟨A11, hcut11, hA11, hC11⟩ := print_drop_of (P := Try.prog) (Value.int .i64) 0 22 3 .i64 Try.underlying22 hi011 hsz11 (some ad164) c0 l0 (rd l0 0) (of_decide_eq_true (by first | (with_reducible assumption) | assumption)) (of_decide_eq_true (by first | (with_reducible assumption) | assumption)) HC0.out
          have HR169 := Aside0.mk (Kd.C_of_reads (h1 := fun _ => rfl) (hA11 _ (Kd.reads_of_C HR0.out)))
          have HC169 := Aside0.mk hC11
          clear hA11 hC11 hi011 hsz11
          refine start_ (n := 12) (S := fun w' => True) (ds := []) #[false, false, false, false, false, false, false, false, false, false, false, false] (by kernel_rfl) rfl rfl trivial (fun hHeld => ?_); refine with_tabW impl_parts.tab2 impl_parts.bits2 (fun HT_ HW_ => ?_)
          generalize w.drew = w9 at HB HR165 HR169 hHeld ⊢
          refine pure_ (i := 0) (N := some 8) (v := ?_) (a' := ?_) #[true, false, false, false, false, false, false, false, false, false, false, false] rfl rfl (any_of HT_.out (by kernel_rfl)) (fun _ _ _ h => h) (Or.inl ⟨by rfl, ?_⟩) ?_ ?_
          rotate_left
          · intro w'
            go_simp
            with_reducible rfl
          rotate_left
          · simp only [Act.put, List.setIfInBounds_toArray, List.set_cons_zero, List.set_cons_succ, i64_w, i32_w]
            rfl
          refine pure_ (i := 1) (N := some 9) (v := ?_) (a' := ?_) #[true, true, false, false, false, false, false, false, false, false, false, false] rfl rfl (any_of HT_.out (by kernel_rfl)) (fun _ _ _ h => h) (Or.inl ⟨by rfl, ?_⟩) ?_ ?_
          rotate_left
          · intro w'
            go_simp
            with_reducible rfl
          rotate_left
          · simp only [Act.put, List.setIfInBounds_toArray, List.set_cons_zero, List.set_cons_succ, i64_w, i32_w]
            rfl
          refine pure_ (i := 2) (N := some 10) (v := ?_) (a' := ?_) #[true, true, true, false, false, false, false, false, false, false, false, false] rfl rfl (any_of HT_.out (by kernel_rfl)) (fun _ _ _ h => h) (Or.inl ⟨by rfl, ?_⟩) ?_ ?_
          rotate_left
          · intro w'
            go_simp
            with_reducible rfl
          rotate_left
          · simp only [Act.put, List.setIfInBounds_toArray, List.set_cons_zero, List.set_cons_succ, i64_w, i32_w]
            rfl
          refine pure_ (i := 4) (N := some 12) (v := ?_) (a' := ?_) #[true, true, true, false, true, false, false, false, false, false, false, false] rfl rfl (any_of HT_.out (by kernel_rfl)) (fun _ _ _ h => h) (Or.inl ⟨by rfl, ?_⟩) ?_ ?_
          rotate_left
          · intro w'
            go_simp
            with_reducible rfl
          rotate_left
          · simp only [Act.put, List.setIfInBounds_toArray, List.set_cons_zero, List.set_cons_succ, i64_w, i32_w]
            rfl
          refine pure_ (i := 5) (N := some 13) (v := ?_) (a' := ?_) #[true, true, true, false, true, true, false, false, false, false, false, false] rfl rfl (any_of HT_.out (by kernel_rfl)) (fun _ _ _ h => h) (Or.inl ⟨by rfl, ?_⟩) ?_ ?_
          rotate_left
          · intro w'
            go_simp
            with_reducible rfl
          rotate_left
          · simp only [Act.put, List.setIfInBounds_toArray, List.set_cons_zero, List.set_cons_succ, i64_w, i32_w]
            rfl
          refine pure_ (i := 6) (N := some 14) (v := ?_) (a' := ?_) #[true, true, true, false, true, true, true, false, false, false, false, false] rfl rfl (any_of HT_.out (by kernel_rfl)) (fun _ _ _ h => h) (Or.inl ⟨by rfl, ?_⟩) ?_ ?_
          rotate_left
          · intro w'
            go_simp
            with_reducible rfl
          rotate_left
          · simp only [Act.put, List.setIfInBounds_toArray, List.set_cons_zero, List.set_cons_succ, i64_w, i32_w]
            rfl
          refine pure_ (i := 7) (N := some 15) (v := ?_) (a' := ?_) #[true, true, true, false, true, true, true, true, false, false, false, false] rfl rfl (any_of HT_.out (by kernel_rfl)) (fun _ _ _ h => h) (Or.inl ⟨by rfl, ?_⟩) ?_ ?_
          rotate_left
          · intro w'
            go_simp
            with_reducible rfl
          rotate_left
          · simp only [Act.put, List.setIfInBounds_toArray, List.set_cons_zero, List.set_cons_succ, i64_w, i32_w]
            rfl
          refine pure_ (i := 8) (N := some 16) (v := ?_) (a' := ?_) #[true, true, true, false, true, true, true, true, true, false, false, false] rfl rfl (any_of HT_.out (by kernel_rfl)) (fun _ _ _ h => h) (Or.inl ⟨by rfl, ?_⟩) ?_ ?_
          rotate_left
          · intro w'
            go_simp
            with_reducible rfl
          rotate_left
          · simp only [Act.put, List.setIfInBounds_toArray, List.set_cons_zero, List.set_cons_succ, i64_w, i32_w]
            rfl
          refine one_ (i := 3) (N := some 11) #[true, true, true, true, true, true, true, true, true, false, false, false] rfl rfl (one_of HT_.out (by kernel_rfl)) (by decide) (fun K hK => ?_)
          refine goes_ Try.func61 (by kernel_rfl) rfl #[.slice A10 ((l0.take ((rd l0 0) : Int).toNat).drop 1).length (c0 - 1)] (by rfl) rfl rfl (by (try simp only [List.map_toArray, List.map_cons, List.map_nil]); first | done | (rw [show ((l0.take ((rd l0 0) : Int).toNat).drop 1).length = ((rd l0 0).toNat - 1) from (by rw [List.length_drop, List.length_take]; have h_ : ((rd l0 0) : Int) ≤ (l0.length : Int) := of_decide_eq_true (by first | (with_reducible assumption) | assumption); omega)] <;> rfl) | rfl | (simp only [List.length_drop, List.length_take]; rfl)) ?_
          with_reducible refine (slices_Clone_int_int.calls _ _ ((l0.take ((rd l0 0) : Int).toNat).drop 1) t166 _ ?side1 ?side2 A5.out).mono ?_
          (case side1 => repeat (first | exact HR165.out | exact (Kd.C_below HR165.out HB.out) | (with_reducible refine Kd.C_alloc ?_ _) | (with_reducible refine Kd.C_drewN ?_ _) | (with_reducible refine Kd.C_drew ?_)))
          (case side2 => exact HC165.out)
          rintro e w12 ⟨v167, rfl, ho0, hb⟩
          refine ⟨_, rfl, ?_⟩
          have n0_ := Aside0.mk (Kd.R_lower ho0 (below_size (by repeat (first | (with_reducible first | exact HB.out | apply below_alloc | apply pw_below_drewN | apply below_drew1) | exact HB.out))))
          have n1_ := Aside0.mk (below_step (by repeat (first | (with_reducible first | exact HB.out | apply below_alloc | apply pw_below_drewN | apply below_drew1) | exact HB.out)) hb)
          clear HB
          have HO168 := n0_
          have HB := n1_
          clear n0_ n1_
          (try clear hb)
          (try clear hb2)
          (try clear hk)
          (try clear hi)
          (try clear ho0)
          refine hK.out _ _ trivial (fun hHeld => ?_)
          clear hK K
          refine norm_ (a' := ?_) ?_ ?_
          rotate_left
          · show Act.put _ (some 11) _ = _
            simp only [Act.put, List.setIfInBounds_toArray, List.set_cons_zero, List.set_cons_succ, i64_w, i32_w]
            rfl
          refine one_ (i := 9) (N := some 17) #[true, true, true, true, true, true, true, true, true, true, false, false] rfl rfl (one_of HT_.out (by kernel_rfl)) (by decide) (fun K hK => ?_)
          refine goes_ Try.func62 (by kernel_rfl) rfl #[.slice A11 (l0.drop ((rd l0 0) : Int).toNat).length (c0 - (rd l0 0).toNat), .int .i64 (wrap64 (-(rd l0 0)))] (by rfl) rfl rfl (by (try simp only [List.map_toArray, List.map_cons, List.map_nil]); first | done | (rw [show (l0.drop ((rd l0 0) : Int).toNat).length = (l0.length - (rd l0 0).toNat) from List.length_drop] <;> rfl) | rfl | (simp only [List.length_drop, List.length_take]; rfl)) ?_
          with_reducible refine (impl_shifted.calls k _ _ (l0.drop ((rd l0 0) : Int).toNat) (wrap64 (-(rd l0 0))) t170 _ ?side1 ?side2 A8.out).mono ?_
          (case side1 => repeat (first | exact HR169.out | exact (Kd.C_below HR169.out HB.out) | (with_reducible refine Kd.C_alloc ?_ _) | (with_reducible refine Kd.C_drewN ?_ _) | (with_reducible refine Kd.C_drew ?_)))
          (case side2 => exact HC169.out)
          rintro e w13 ⟨v171, rfl, ho0, hb⟩
          refine ⟨_, rfl, ?_⟩
          have n0_ := Aside0.mk (Kd.R_elder' (by (with_reducible repeat (first | apply Kd.R_alloc | apply Kd.R_drewN | apply Kd.R_drew)); exact HO168.out) (Kd.R_base ho0) hb)
          have n1_ := Aside0.mk (Kd.R_lower (Kd.R_new' ho0 (Kd.R_lt (by (with_reducible repeat (first | apply Kd.R_alloc | apply Kd.R_drewN | apply Kd.R_drew)); exact HO168.out))) (below_size (by repeat (first | (with_reducible first | exact HB.out | apply below_alloc | apply pw_below_drewN | apply below_drew1) | exact HB.out))))
          have n2_ := Aside0.mk (below_step (by repeat (first | (with_reducible first | exact HB.out | apply below_alloc | apply pw_below_drewN | apply below_drew1) | exact HB.out)) hb)
          clear HO168
          clear HB
          have HO168 := n0_
          have HO172 := n1_
          have HB := n2_
          clear n0_ n1_ n2_
          (try clear hb)
          (try clear hb2)
          (try clear hk)
          (try clear hi)
          (try clear ho0)
          refine hK.out _ _ trivial (fun hHeld => ?_)
          clear hK K
          refine norm_ (a' := ?_) ?_ ?_
          rotate_left
          · show Act.put _ (some 17) _ = _
            simp only [Act.put, List.setIfInBounds_toArray, List.set_cons_zero, List.set_cons_succ, i64_w, i32_w]
            rfl
          refine pure_ (i := 10) (N := some 2) (v := ?_) (a' := ?_) #[true, true, true, true, true, true, true, true, true, true, true, false] rfl rfl (any_of HT_.out (by kernel_rfl)) (fun _ _ _ h => h) (Or.inl ⟨by rfl, ?_⟩) ?_ ?_
          rotate_left
          · intro w'
            go_simp
            with_reducible rfl
          rotate_left
          · simp only [Act.put, List.setIfInBounds_toArray, List.set_cons_zero, List.set_cons_succ, i64_w, i32_w]
            rfl
          refine pure_ (i := 11) (N := some 3) (v := ?_) (a' := ?_) #[true, true, true, true, true, true, true, true, true, true, true, true] rfl rfl (any_of HT_.out (by kernel_rfl)) (fun _ _ _ h => h) (Or.inl ⟨by rfl, ?_⟩) ?_ ?_
          rotate_left
          · intro w'
            go_simp
            with_reducible rfl
          rotate_left
          · simp only [Act.put, List.setIfInBounds_toArray, List.set_cons_zero, List.set_cons_succ, i64_w, i32_w]
            rfl
          refine done_ (done_of HT_.out (by kernel_rfl)) ?_
          try go_wp2
          go_ret2
          exact ⟨_, _, by first | rfl | (simp [errW_none, errW_some] <;> rfl) | (simp [*, errW_none, errW_some] <;> rfl), by (with_reducible repeat (first | apply Kd.R_alloc | apply Kd.R_drewN | apply Kd.R_drew)); exact Kd.R_mono HO168.out (fun _ hk => hk.2), by (with_reducible repeat (first | apply Kd.R_alloc | apply Kd.R_drewN | apply Kd.R_drew)); exact Kd.R_mono HO172.out (fun _ hk => hk.2), by repeat (first | (with_reducible first | exact HB.out | apply below_alloc | apply pw_below_drewN | apply below_drew1) | exact HB.out)⟩
        · rw [if_neg c6] at H
          exact absurd H (by simp)
      · rw [if_neg c4] at H
        exact absurd H (by simp)
    · rw [if_neg c3] at H
      exact absurd H (by simp)
  · rw [if_neg c2] at H
    exact absurd H (by simp)

/-! behind impl_parts -/
theorem impl_parts_is (b a : Tr) (k : Nat) (hs : b.size + a.size ≤ 1000) (hk : a.size < k) : impl_parts.f k ((Tr.node b a).toL 1) = some (b.toL 1, a.toL 1) := by
  have hln := Tr.toL_length (Tr.node b a) 1
  have hsz : (Tr.node b a).size = b.size + a.size + 1 := rfl
  have hr : rd ((Tr.node b a).toL 1) 0 = ((b.size + 1 : Nat) : Int) := by simp only [Tr.toL, rd_cons0]; omega
  unfold impl_parts.f
  rw [if_pos (by omega), hr, if_pos (by omega), if_pos (by omega), Int.toNat_natCast, toL_take]
  unfold slices_Clone_int_int.f
  rw [if_pos (by rw [Tr.toL_length]; omega)]
  simp only [Option.bind_some]
  have e : wrap64 (-((b.size + 1 : Nat) : Int)) = -((b.size + 1 : Nat) : Int) := by unfold wrap64; omega
  rw [if_pos (by omega), toL_drop, e, impl_shifted_is _ _ _ (by rw [Tr.toL_length]; omega) (by omega) (fun x hx => by have := Tr.toL_range a _ x hx; omega) (by rw [Tr.toL_length]; exact hk), Tr.toL_shift]
  simp only [Option.bind_some]
  rw [show (1 : Int) + (b.size : Int) + 1 + -((b.size + 1 : Nat) : Int) = 1 by omega]

/-! ### impl_most: function 39 -/
def impl_most.f : Nat → List Int → Int → Int → Option (Int)
  | 0, _, _, _ => none
  | k + 1, l0, a1, a2 => if (l0.length : Int) = 0 then (some 0) else ((impl_parts.f k l0).bind fun bt173 => ((impl_most.f k bt173.1 a1 a2).bind fun t179 => ((impl_most.f k bt173.2 a1 a2).bind fun t180 => (some (mx (wrap64 (a1 + t179)) (wrap64 (a2 + t180)))))))
theorem impl_most.mono_l : ∀ k, (∀ y0 y1 y2, LeO (impl_most.f k y0 y1 y2) (impl_most.f (k + 1) y0 y1 y2))
  | 0 => fun _ _ _ r h => by simp [impl_most.f] at h
  | k + 1 => by
    have ih0 := impl_most.mono_l k
    · intro y0 y1 y2
      unfold impl_most.f
      repeat' first
      | (with_reducible exact ih0 _ _ _)
      | (with_reducible exact impl_parts.mono _ _)
      | (with_reducible exact LeO.refl _)
      | (with_reducible exact LeO.none _)
      | (with_reducible refine LeO.ite ?_ ?_)
      | (with_reducible refine LeO.bind ?_ (fun _ => ?_))
      | exact ih0 _ _ _
      | exact impl_parts.mono _ _
      | exact LeO.none _
      | refine LeO.ite ?_ ?_
      | refine LeO.bind ?_ (fun _ => ?_)
theorem impl_most.mono : ∀ a0 a1 a2 k, LeO (impl_most.f k a0 a1 a2) (impl_most.f (k + 1) a0 a1 a2) := by
  intro a0 a1 a2 k
  have ih0 := impl_most.mono_l k
  exact ih0 a0 a1 a2
set_option maxHeartbeats 8000000 in
set_option maxRecDepth 100000 in
theorem impl_most.calls (k : Nat) : ∀ (A0 : Option Addr) (c0 : Nat) (l0 : List Int) (a1 : Int) (a2 : Int) (r : Int) (w : World) (hr0 : Kd.C (Kd.int .i64) w A0 l0.length l0) (hc0 : l0.length ≤ c0) (h : impl_most.f k l0 a1 a2 = some r),
    Calls Try.prog 39 #[.slice A0 l0.length c0, .int .i64 a1, .int .i64 a2] w fun e w' => e = .returned (.int .i64 r) ∧ Below w.heap.size w w' := by
  induction k using Nat.strongRecOn with
  | _ k ih =>
  intro A0 c0 l0 a1 a2 r w hr0 hc0 h
  cases k with
  | zero => exact absurd h (by simp [impl_most.f])
  | succ k =>
  simp only [impl_most.f] at h
  have HR0 := Aside0.mk hr0
  have HC0 := Aside0.mk hc0
  clear hr0 hc0
  have HB := Aside0.mk (Below.refl w.heap.size w)
  have H : (if (l0.length : Int) = 0 then (some 0) else ((impl_parts.f k l0).bind fun bt173 => ((impl_most.f k bt173.1 a1 a2).bind fun t179 => ((impl_most.f k bt173.2 a1 a2).bind fun t180 => (some (mx (wrap64 (a1 + t179)) (wrap64 (a2 + t180)))))))) = some r := h
  clear h
  by_cases c4 : (l0.length : Int) = 0
  · rw [if_pos c4] at H
    have c4b0 : ((l0.length : Int) == 0) = true := beq_iff_eq.mpr c4
    have c4b1 : ((l0.length : Int) != 0) = false := bne_eq_false_iff_eq.mpr c4
    clear c4
    obtain rfl := Option.some.inj H
    go_enter Try.func39, Try.ntmps39
    go_wp2
    go_ret
    exact ⟨by first | rfl | (simp [errW_none, errW_some] <;> rfl) | (simp [*, errW_none, errW_some] <;> rfl), by repeat (first | (with_reducible first | exact HB.out | apply below_alloc | apply pw_below_drewN | apply below_drew1) | exact HB.out)⟩
  · rw [if_neg c4] at H
    have c4b0 : ((l0.length : Int) == 0) = false := beq_eq_false_iff_ne.mpr c4
    have c4b1 : ((l0.length : Int) != 0) = true := bne_iff_ne.mpr c4
    have c4b2 : ¬ (l0 = []) := fun h_ => c4 (by rw [h_]; rfl)
    replace H := Option.bind_eq_some_iff.mp H
    obtain ⟨⟨t173, t174⟩, A50, H⟩ := H
    replace H : ((impl_most.f k t173 a1 a2).bind fun t179 => ((impl_most.f k t174 a1 a2).bind fun t180 => (some (mx (wrap64 (a1 + t179)) (wrap64 (a2 + t180)))))) = some r := H
    have A5 := Aside0.mk A50
    clear A50
    replace H := Option.bind_eq_some_iff.mp H
    obtain ⟨t179, A60, H⟩ := H
    replace H : ((impl_most.f k t174 a1 a2).bind fun t180 => (some (mx (wrap64 (a1 + t179)) (wrap64 (a2 + t180))))) = some r := H
    have A6 := Aside0.mk A60
    clear A60
    replace H := Option.bind_eq_some_iff.mp H
    obtain ⟨t180, A70, H⟩ := H
    replace H : (some (mx (wrap64 (a1 + t179)) (wrap64 (a2 + t180)))) = some r := H
    have A7 := Aside0.mk A70
    clear A70
    obtain ⟨ji8, hji8⟩ : ∃ j_ : Int, (mx (wrap64 (a1 + t179)) (wrap64 (a2 + t180))) = j_ := ⟨_, rfl⟩
    replace H : (some ji8) = some r := by first | (rw [hji8] at H; exact H) | (simp only [hji8] at H ⊢; exact H)
    (try rw [hji8] at A5)
    (try rw [hji8] at A6)
    (try rw [hji8] at A7)
    have hji8_ : (if (wrap64 (a1 + t179)) < (wrap64 (a2 + t180)) then (wrap64 (a2 + t180)) else (wrap64 (a1 + t179))) = ji8 := hji8
    obtain rfl := Option.some.inj H
    go_enter Try.func39, Try.ntmps39
    go_wp2_with (first | ((with_reducible refine gate_callee (f := 43) rfl ?_); refine goesL_ (some 14) rfl rfl Try.func43 (by kernel_rfl) rfl #[.slice A0 l0.length c0] rfl (by (try simp only [List.map_toArray, List.map_cons, List.map_nil]); first | done | rfl | (simp only [List.length_drop, List.length_take]; rfl)) ?_; (with_reducible refine (impl_parts.calls k _ _ l0 t173 t174 _ ?side1 ?side2 A5.out).mono ?_); (case side1 => repeat (first | exact HR0.out | (with_reducible refine Kd.C_alloc ?_ _) | (with_reducible refine Kd.C_drewN ?_ _) | (with_reducible refine Kd.C_drew ?_))); (case side2 => exact HC0.out); rintro e w9 ⟨v175, v177, rfl, ho0, ho1, hb⟩; refine ⟨_, rfl, ?_⟩; have n0_ := Aside0.mk (Kd.R_lower ho0 (below_size (by repeat (first | (with_reducible first | exact HB.out | apply below_alloc | apply pw_below_drewN | apply below_drew1) | exact HB.out)))); have n1_ := Aside0.mk (Kd.R_lower ho1 (below_size (by repeat (first | (with_reducible first | exact HB.out | apply below_alloc | apply pw_below_drewN | apply below_drew1) | exact HB.out)))); have n2_ := Aside0.mk (below_step (by repeat (first | (with_reducible first | exact HB.out | apply below_alloc | apply pw_below_drewN | apply below_drew1) | exact HB.out)) hb); clear HB; have HO176 := n0_; have HO178 := n1_; have HB := n2_; clear n0_ n1_ n2_; (try clear hb); (try clear hb2); (try clear hk); (try clear hi); (try clear ho0); (try clear ho1); obtain ⟨Ao10, co10, eo10⟩ := Kd.R_slice HO176.out; subst eo10) | ((with_reducible refine gate_callee (f := 39) rfl ?_); refine goesL_ (some 21) rfl rfl Try.func39 (by kernel_rfl) rfl #[.slice Ao10 t173.length co10, .int .i64 a1, .int .i64 a2] rfl (by (try simp only [List.map_toArray, List.map_cons, List.map_nil]); first | done | rfl | (simp only [List.length_drop, List.length_take]; rfl)) ?_; (with_reducible refine (ih k (by omega) _ _ t173 a1 a2 t179 _ ?side1 ?side2 A6.out).mono ?_); (case side1 => repeat (first | exact (Kd.R_reads' HO176.out).2.2 | (with_reducible refine Kd.C_alloc ?_ _) | (with_reducible refine Kd.C_drewN ?_ _) | (with_reducible refine Kd.C_drew ?_))); (case side2 => exact (Kd.R_reads' HO176.out).2.1); rintro e w11 ⟨rfl, hb⟩; refine ⟨_, rfl, ?_⟩; have n0_ := Aside0.mk (Kd.R_below (by (with_reducible repeat (first | apply Kd.R_alloc | apply Kd.R_drewN | apply Kd.R_drew)); exact HO176.out) hb); have n1_ := Aside0.mk (Kd.R_below (by (with_reducible repeat (first | apply Kd.R_alloc | apply Kd.R_drewN | apply Kd.R_drew)); exact HO178.out) hb); have n2_ := Aside0.mk (below_step (by repeat (first | (with_reducible first | exact HB.out | apply below_alloc | apply pw_below_drewN | apply below_drew1) | exact HB.out)) hb); clear HO176; clear HO178; clear HB; have HO176 := n0_; have HO178 := n1_; have HB := n2_; clear n0_ n1_ n2_; (try clear hb); (try clear hb2); (try clear hk); (try clear hi); obtain ⟨Ao12, co12, eo12⟩ := Kd.R_slice HO178.out; subst eo12) | ((with_reducible refine gate_callee (f := 39) rfl ?_); refine goesL_ (some 27) rfl rfl Try.func39 (by kernel_rfl) rfl #[.slice Ao12 t174.length co12, .int .i64 a1, .int .i64 a2] rfl (by (try simp only [List.map_toArray, List.map_cons, List.map_nil]); first | done | rfl | (simp only [List.length_drop, List.length_take]; rfl)) ?_; (with_reducible refine (ih k (by omega) _ _ t174 a1 a2 t180 _ ?side1 ?side2 A7.out).mono ?_); (case side1 => repeat (first | exact (Kd.R_reads' HO178.out).2.2 | (with_reducible refine Kd.C_alloc ?_ _) | (with_reducible refine Kd.C_drewN ?_ _) | (with_reducible refine Kd.C_drew ?_))); (case side2 => exact (Kd.R_reads' HO178.out).2.1); rintro e w13 ⟨rfl, hb⟩; refine ⟨_, rfl, ?_⟩; have n0_ := Aside0.mk (Kd.R_below (by (with_reducible repeat (first | apply Kd.R_alloc | apply Kd.R_drewN | apply Kd.R_drew)); exact HO176.out) hb); have n1_ := Aside0.mk (Kd.R_below (by (with_reducible repeat (first | apply Kd.R_alloc | apply Kd.R_drewN | apply Kd.R_drew)); exact HO178.out) hb); have n2_ := Aside0.mk (below_step (by repeat (first | (with_reducible first | exact HB.out | apply below_alloc | apply pw_below_drewN | apply below_drew1) | exact HB.out)) hb); clear HO176; clear HO178; clear HB; have HO176 := n0_; have HO178 := n1_; have HB := n2_; clear n0_ n1_ n2_; (try clear hb); (try clear hb2); (try clear hk); (try clear hi)))
    go_ret
    exact ⟨by first | rfl | (simp [errW_none, errW_some] <;> rfl) | (simp only [← hji8]; first | rfl | (simp [errW_none, errW_some] <;> rfl)) | (simp [*, errW_none, errW_some] <;> rfl), by repeat (first | (with_reducible first | exact HB.out | apply below_alloc | apply pw_below_drewN | apply below_drew1) | exact HB.out)⟩

/-! behind impl_most -/
theorem impl_most_is (br wh : Int) (h1 : 0 ≤ br ∧ br ≤ 1) (h2 : 0 ≤ wh ∧ wh ≤ 1) : ∀ (t : Tr) (k : Nat), t.size < k → t.size ≤ 1000 → impl_most.f k (t.toL 1) br wh = some (t.mostV br wh)
  | .nil, k, hk, _ => by
    obtain ⟨k, rfl⟩ : ∃ m, k = m + 1 := ⟨k - 1, by omega⟩
    simp only [impl_most.f]
    rw [if_pos (show ((Tr.nil.toL _).length : Int) = 0 from rfl)]
    rfl
  | .node b a, k, hk, hs => by
    obtain ⟨k, rfl⟩ : ∃ m, k = m + 1 := ⟨k - 1, by omega⟩
    have hln := Tr.toL_length (Tr.node b a) 1
    have hsz : (Tr.node b a).size = b.size + a.size + 1 := rfl
    simp only [impl_most.f]
    rw [if_neg (by omega), impl_parts_is b a k (by omega) (by omega)]
    simp only [Option.bind_some]
    rw [impl_most_is br wh h1 h2 b k (by omega) (by omega)]
    simp only [Option.bind_some]
    rw [impl_most_is br wh h1 h2 a k (by omega) (by omega)]
    simp only [Option.bind_some, Tr.mostV]
    have r1 := Tr.mostV_range br wh h1 h2 b
    have r2 := Tr.mostV_range br wh h1 h2 a
    congr 1
    unfold mx wrap64
    omega


/-! ### impl_isEggs: function 55 -/
def impl_isEggs.f (a0 : Int) : Option (Bool) := (impl_within.f a0 1 10).bind fun t181 => (some t181)
set_option maxHeartbeats 8000000 in
set_option maxRecDepth 100000 in
theorem impl_isEggs.calls (a0 : Int) (r : Bool) (w : World) (h : impl_isEggs.f a0 = some r) :
    Calls Try.prog 55 #[.int .i64 a0] w fun e w' => e = .returned (.bool r) ∧ Drawn0 w w' := by
  have H : ((impl_within.f a0 1 10).bind fun t181 => (some t181)) = some r := h
  clear h
  replace H := Option.bind_eq_some_iff.mp H
  obtain ⟨t181, A20, H⟩ := H
  replace H : (some t181) = some r := H
  have A2 := Aside0.mk A20
  clear A20
  obtain rfl := Option.some.inj H
  go_enter Try.func55, Try.ntmps55
  go_wp2_with (first | ((with_reducible refine gate_callee (f := 66) rfl ?_); refine goesL_ (some 4) rfl rfl Try.func66 (by kernel_rfl) rfl #[.int .i64 a0, .int .i64 1, .int .i64 10] rfl (by (try simp only [List.map_toArray, List.map_cons, List.map_nil]); first | done | rfl | (simp only [List.length_drop, List.length_take]; rfl)) ?_; (with_reducible refine (impl_within.calls0 a0 1 10 t181 _ A2.out).mono ?_); rintro e w' ⟨rfl, rfl⟩; refine ⟨_, rfl, ?_⟩))
  go_ret
  exact ⟨by first | rfl | (simp; done) | (simp [*]; done), by repeat (first | exact Drawn0.refl _ | apply Drawn0.step)⟩

set_option maxHeartbeats 8000000 in
set_option maxRecDepth 100000 in
theorem impl_isEggs.calls0 (a0 : Int) (r : Bool) (w : World) (h : impl_isEggs.f a0 = some r) :
    Calls Try.prog 55 #[.int .i64 a0] w fun e w' => e = .returned (.bool r) ∧ w = w' := by
  have H : ((impl_within.f a0 1 10).bind fun t181 => (some t181)) = some r := h
  clear h
  replace H := Option.bind_eq_some_iff.mp H
  obtain ⟨t181, A20, H⟩ := H
  replace H : (some t181) = some r := H
  have A2 := Aside0.mk A20
  clear A20
  obtain rfl := Option.some.inj H
  go_enter Try.func55, Try.ntmps55
  go_wp2_with (first | ((with_reducible refine gate_callee (f := 66) rfl ?_); refine goesL_ (some 4) rfl rfl Try.func66 (by kernel_rfl) rfl #[.int .i64 a0, .int .i64 1, .int .i64 10] rfl (by (try simp only [List.map_toArray, List.map_cons, List.map_nil]); first | done | rfl | (simp only [List.length_drop, List.length_take]; rfl)) ?_; (with_reducible refine (impl_within.calls0 a0 1 10 t181 _ A2.out).mono ?_); rintro e w' ⟨rfl, rfl⟩; refine ⟨_, rfl, ?_⟩))
  go_ret
  exact ⟨by first | rfl | (simp; done) | (simp [*]; done), by first | rfl | simp⟩

/-! behind impl_isEggs -/
theorem impl_isEggs_is (a : Int) : impl_isEggs.f a = some (decide (1 ≤ a) && decide (a ≤ 10)) := by unfold impl_isEggs.f; rw [impl_within_is]; rfl

/-! ### impl_newReaches: function 56, a contract of our own -/
-- IMPORT Derived.BigRegion
theorem zeroReaches : Try.zeroCells67 = arrV 11011 (fun _ => 0) := by
  apply Array.ext'
  rw [chkZ_is Try.zeroCells67.toList 11011 (by kernel_rfl)]
  simp [arrV]
set_option maxHeartbeats 4000000 in
set_option maxRecDepth 100000 in
theorem newReaches_calls (w : World) : Calls Try.prog 56 #[] w fun e w' => ∃ g, e = .returned (.pointer (some ⟨g, 0, none⟩)) ∧ IsReaches w' g ∧ w.heap.size ≤ g ∧ Below w.heap.size w w' := by
  have HA0 := Aside0.mk (show ArrI (w.alloc (.cells Try.zeroCells67 67 (0, 0))) w.heap.size 67 11011 (reachArr (1 * 11 + 1)) from
    ArrI.congr (f := fun _ => 0) ⟨by rw [zeroReaches]; exact blk_new w _⟩ (fun i _ => (reachArr_start i).symm))
  have HB0 := Aside0.mk (below_alloc (Below.refl w.heap.size w) (.cells Try.zeroCells67 67 (0, 0)))
  go_enter Try.func56, Try.ntmps56
  go_wp2
  generalize hg : w.heap.size = g at HA0 ⊢
  have HG := Aside0.mk hg
  clear hg
  go_loopg [2] 1001 (fun gg v2 wr => ∃ t : Nat, 1 ≤ t ∧ t ≤ 1001 ∧ 1001 - t ≤ gg ∧ v2 = .int .i64 t ∧ Aside0 (ArrI wr g 67 11011 (reachArr (t * 11 + 1))) ∧ Aside0 (Below w.heap.size w wr))
  case atStart => exact ⟨1, by omega, by omega, by omega, rfl, HA0, HB0⟩
  case round =>
    clear HA0 HB0
    obtain ⟨t, ht1, ht2, hgg, rfl, HA, HB⟩ := hrel
    by_cases hlt : t ≤ 1000
    · have hltz : (t : Int) ≤ 1000 := by omega
      go_wp2
      go_loopg [3] 11 (fun gg v3 wr => ∃ e : Nat, 1 ≤ e ∧ e ≤ 11 ∧ 11 - e ≤ gg ∧ v3 = .int .i64 e ∧ Aside0 (ArrI wr g 67 11011 (reachArr (t * 11 + e))) ∧ Aside0 (Below w.heap.size w wr))
      case atStart => exact ⟨1, by omega, by omega, by omega, rfl, HA, HB⟩
      case round =>
        clear HA HB
        obtain ⟨e, he1, he2, hg2, rfl, HA, HB⟩ := hrel
        by_cases hle : e ≤ 10
        · have hlez : (e : Int) ≤ 10 := by omega
          obtain ⟨s, rfl⟩ : ∃ s, t = s + 1 := ⟨t - 1, by omega⟩
          obtain ⟨q, rfl⟩ : ∃ q, e = q + 1 := ⟨e - 1, by omega⟩
          have hv1 : reachArr ((s + 1) * 11 + (q + 1)) (s * 11 + q) = rch s q := by unfold reachArr; rw [if_pos (by omega), show (s * 11 + q) / 11 = s by omega, show (s * 11 + q) % 11 = q by omega]
          have hv2 : reachArr ((s + 1) * 11 + (q + 1)) (s * 11 + (q + 1)) = rch s (q + 1) := by unfold reachArr; rw [if_pos (by omega), show (s * 11 + (q + 1)) / 11 = s by omega, show (s * 11 + (q + 1)) % 11 = q + 1 by omega]
          have hx1 := HA.out.cell (s * 11 + q) (by omega)
          have hx2 := HA.out.cell (s * 11 + (q + 1)) (by omega)
          have hx3 := HA.out.cell ((s + 1) * 11 + (q + 1)) (by omega)
          have hf3 := HA.out.frozen ((s + 1) * 11 + (q + 1))
          rw [hv1] at hx1
          rw [hv2] at hx2
          have hr1 := rch_range s q
          have hr2 := rch_range s (q + 1)
          clear hv1 hv2
          generalize reachArr ((s + 1) * 11 + (q + 1)) ((s + 1) * 11 + (q + 1)) = z at hx3
          have hset := Aside0.mk ((HA.out.set ((s + 1) * 11 + (q + 1)) (min 1000000001 (rch s q + rch s (q + 1) + 1))).congr (fun i _ => reachArr_set (s + 1) (q + 1) i (by omega) (by omega) (by omega)))
          clear HA
          rcases (by omega : rch s q + rch s (q + 1) + 1 < 1000000001 ∨ 1000000001 ≤ rch s q + rch s (q + 1) + 1) with hm | hm
          case' inl => rw [show min 1000000001 (rch s q + rch s (q + 1) + 1) = rch s q + rch s (q + 1) + 1 by omega] at hset
          case' inr => rw [show min 1000000001 (rch s q + rch s (q + 1) + 1) = 1000000001 by omega] at hset
          all_goals
            go_wp2
            go_region
            go_wp2
            go_roundg (11 - (q + 1 + 1))
            case measure => omega
            case rel => exact ⟨q + 1 + 1, by omega, by omega, by omega, by go_num, ⟨ArrI.below hset.out (below_drew1 (Below.refl _ _))⟩, ⟨below_drew1 (below_set HB.out (by rw [HG.out]; exact Nat.le_refl _))⟩⟩
        · have hlez : ¬ (e : Int) ≤ 10 := by omega
          obtain rfl : e = 11 := by omega
          go_wp2
          go_roundg (1001 - (t + 1))
          case measure => omega
          case rel =>
            exact ⟨t + 1, by omega, by omega, by omega, by go_num, ⟨HA.out.congr (fun i _ => reachArr_row t i)⟩, HB⟩
    · have hltz : ¬ (t : Int) ≤ 1000 := by omega
      obtain rfl : t = 1001 := by omega
      go_wp2
      go_ret
      exact ⟨g, rfl, HA.out.congr (fun i hi => by unfold reachArr; rw [if_pos (by omega), if_pos hi]), by rw [HG.out]; exact Nat.le_refl _, HB.out⟩

end Go.Proofs.Ytmclbiollhdbjaa.PrintY
