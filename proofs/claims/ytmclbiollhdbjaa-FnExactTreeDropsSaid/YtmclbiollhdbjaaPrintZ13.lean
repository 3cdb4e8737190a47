-- written by this session's own driver (wip/gen.py) with the kit's print and contracts of our own
import Derived.Test.YtmclbiollhdbjaaPrintZ0
import Derived.Test.YtmclbiollhdbjaaPrintZ1
import Derived.Test.YtmclbiollhdbjaaPrintZ3
import Derived.Test.YtmclbiollhdbjaaPrintZ6
import Derived.Test.YtmclbiollhdbjaaPrintZ8
import Derived.Test.YtmclbiollhdbjaaPrintZ9
import Derived.Test.YtmclbiollhdbjaaPrintZ12
namespace Go.Proofs.Ytmclbiollhdbjaa.PrintZ
open Go.RowKit Go.Proofs.YtmclbiollhdbjaaLib Go.Proofs.YtmclbiollhdbjaaW.PrintWords Go.Proofs.YtmclbiollhdbjaaW.PrintLast Go.Proofs.YtmclbiollhdbjaaW.PrintMore
attribute [local go_sem] max2_int min2_int max_two min_two max_three min_three max_four min_four   -- for this text's walks alone
set_option linter.unusedVariables false
set_option linter.unusedSimpArgs false

/-! ### impl_treeDrops: function 44 -/
def impl_treeDrops.l0 : Nat → List Int → Int → List (S56) → Int → Option ((List (S56)))
  | 0, _, _, _, _ => none
  | k + 1, x0, x1, x5, x6 => if (x0.length : Int) > 0 then ((impl_parts.f k x0).bind fun bt194 => (if 0 < (x0.length : Int) then (if (wrap64 (x6 + (rd x0 0))) > x1 then (if x5.length < 8796093022208 then (impl_treeDrops.l0 k bt194.1 x1 (x5 ++ [(⟨wrap64 (x6 + (rd x0 0)), true⟩ : S56)]) x6) else (none)) else (if x5.length < 8796093022208 then (impl_treeDrops.l0 k bt194.2 x1 (x5 ++ [(⟨wrap64 (x6 + (rd x0 0)), false⟩ : S56)]) (wrap64 (x6 + (rd x0 0)))) else (none))) else (none))) else (some x5)
def impl_treeDrops.f (k : Nat) (l0 : List Int) (a1 : Int) : Option ((List (S56))) := impl_treeDrops.l0 k l0 a1 (([] : List (S56))) 0
theorem impl_treeDrops.mono_l : ∀ k, (∀ y0 y1 y2 y3, LeO (impl_treeDrops.l0 k y0 y1 y2 y3) (impl_treeDrops.l0 (k + 1) y0 y1 y2 y3))
  | 0 => fun _ _ _ _ r h => by simp [impl_treeDrops.l0] at h
  | k + 1 => by
    have ih0 := impl_treeDrops.mono_l k
    · intro y0 y1 y2 y3
      unfold impl_treeDrops.l0
      repeat' first
      | (with_reducible exact ih0 _ _ _ _)
      | (with_reducible exact impl_parts.mono _ _)
      | (with_reducible exact LeO.refl _)
      | (with_reducible exact LeO.none _)
      | (with_reducible refine LeO.ite ?_ ?_)
      | (with_reducible refine LeO.bind ?_ (fun _ => ?_))
      | exact ih0 _ _ _ _
      | exact impl_parts.mono _ _
      | exact LeO.none _
      | refine LeO.ite ?_ ?_
      | refine LeO.bind ?_ (fun _ => ?_)
theorem impl_treeDrops.mono : ∀ a0 a1 k, LeO (impl_treeDrops.f k a0 a1) (impl_treeDrops.f (k + 1) a0 a1) := by
  intro a0 a1 k
  have ih0 := impl_treeDrops.mono_l k
  unfold impl_treeDrops.f
  repeat' first
      | (with_reducible exact ih0 _ _ _ _)
      | (with_reducible exact impl_parts.mono _ _)
      | (with_reducible exact LeO.refl _)
      | (with_reducible exact LeO.none _)
      | (with_reducible refine LeO.ite ?_ ?_)
      | (with_reducible refine LeO.bind ?_ (fun _ => ?_))
      | exact ih0 _ _ _ _
      | exact impl_parts.mono _ _
      | exact LeO.none _
      | refine LeO.ite ?_ ?_
      | refine LeO.bind ?_ (fun _ => ?_)
set_option maxHeartbeats 8000000 in
set_option maxRecDepth 100000 in
theorem impl_treeDrops.calls (k : Nat) (P0_ : Nat → Prop) (A0 : Option Addr) (c0 : Nat) (l0 : List Int) (a1 : Int) (r : List (S56)) (w : World) (hs0 : Kd.V (Kd.int .i64) 3 w w.heap.size (fun k_ => P0_ k_) (.slice A0 l0.length c0) l0) (h : impl_treeDrops.f k l0 a1 = some r) :
    Calls Try.prog 44 #[.slice A0 l0.length c0, .int .i64 a1] w fun e w' => ∃ v0_ : Value, e = .returned (v0_) ∧ Kd.R k56 56 w' w.heap.size (fun k_ => (w.heap.size ≤ k_)) v0_ r ∧ Below w.heap.size w w' := by
  have hu56 := Try.underlying56
  have HO0 := Aside0.mk (show Kd.V (Kd.int .i64) 3 w w.heap.size (fun k_ => (P0_ k_ ∨ w.heap.size ≤ k_)) (.slice A0 l0.length c0) l0 from Kd.V_mono hs0 (fun k_ hk => .inl hk))
  have HB := Aside0.mk (Below.refl w.heap.size w)
  have H : (impl_treeDrops.l0 k l0 a1 (([] : List (S56))) 0) = some r := h
  clear h
  obtain ⟨y191, hy191⟩ : ∃ y_ : List (S56), y_ = (([] : List (S56))) := ⟨_, rfl⟩
  replace H : (impl_treeDrops.l0 k l0 a1 y191 0) = some r := by first | (rw [hy191]; with_reducible exact H) | (have H2_ := (Option.bind_some _ _).symm.trans H; rw [hy191]; with_reducible exact H2_) | (have H2_ := (Option.bind_some _ _).symm.trans H; with_reducible exact H2_) | with_reducible exact H | (rw [hy191]; exact H) | exact H
  have Ny191 := Aside0.mk hy191
  clear hy191
  have H' := Aside0.mk H
  clear H
  go_enter Try.func44, Try.ntmps44
  go_wp2_with (first | ((with_reducible refine gate_dst (N := 10) rfl ?_); refine Kd.R_lit k56 _ 56 ?hg (N := 10) ?hd (xs := ([] : List (S56))) (inner := []) (ok := fun _ => True) (okp := fun _ => True) ?hr ?hp (fun _ hk => hk) trivial (Below.refl _ _) (Nat.le_refl _) (by simp) ?_; (case hd => rfl); (case hg => rfl); (case hr => first | (go_simp; done) | (go_simp; rfl)); (case hp => exact (Reps.none _ _)); intro v192 w3 ho4 hb hg_ hnew_; clear hg_ hnew_; (first | rw [← Ny191.out] at ho4 | (simp only [Int.reduceToNat] at ho4; rw [← Ny191.out] at ho4)); have n0_ := Aside0.mk (Kd.V_elder' (by (with_reducible repeat (first | apply Kd.V_alloc | apply Kd.V_drewN | apply Kd.V_drew)); exact HO0.out) (Kd.R_base ho4) hb); have n1_ := Aside0.mk (Kd.R_lower (Kd.R_newM (M := fun k_ => (w.heap.size ≤ k_)) ho4 (below_size (by repeat (first | (with_reducible first | exact HB.out | apply below_alloc | apply pw_below_drewN | apply below_drew1) | exact HB.out))) (fun k_ h_ => h_)) (below_size (by repeat (first | (with_reducible first | exact HB.out | apply below_alloc | apply pw_below_drewN | apply below_drew1) | exact HB.out)))); have n2_ := Aside0.mk (below_step (by repeat (first | (with_reducible first | exact HB.out | apply below_alloc | apply pw_below_drewN | apply below_drew1) | exact HB.out)) hb); clear HO0; clear HB; have HO0 := n0_; have HO193 := n1_; have HB := n2_; clear n0_ n1_ n2_; clear hb ho4))
  go_loopg [0, 5, 6] k (fun kq v0 v5 v6 w' => ∃ (x0_1 : List Int) (x5_1 : List (S56)) (x6_1 : Int), v6 = .int .i64 x6_1 ∧ Aside0 (impl_treeDrops.l0 kq x0_1 a1 x5_1 x6_1 = some r) ∧ Aside0 (kq ≤ k) ∧ Aside0 (Kd.V (Kd.int .i64) 3 w' w.heap.size (fun k_ => (P0_ k_ ∨ w.heap.size ≤ k_) ∧ some k_ ≠ (v5 : Value).ownBlock) v0 x0_1) ∧ Aside0 (Kd.R k56 56 w' w.heap.size (fun k_ => (w.heap.size ≤ k_)) v5 x5_1) ∧ Aside0 (Below w.heap.size w w'))
  case atStart => exact ⟨(l0), (y191), (0), (by first | rfl | (simp; done) | (simp [*]; done)), H', ⟨Nat.le_refl _⟩, ⟨by (with_reducible repeat (first | apply Kd.V_alloc | apply Kd.V_drewN | apply Kd.V_drew)); exact HO0.out⟩, ⟨by (with_reducible repeat (first | apply Kd.R_alloc | apply Kd.R_drewN | apply Kd.R_drew)); exact Kd.R_mono HO193.out (fun _ hk => hk.1)⟩, ⟨by repeat (first | (with_reducible first | exact HB.out | apply below_alloc | apply pw_below_drewN | apply below_drew1) | exact HB.out)⟩⟩
  case round =>
    clear H'
    try clear p2
    try clear c4
    obtain ⟨x0_1, x5_1, x6_1, rfl, HA, HK1, HO_0, HO_5, HB⟩ := hrel
    cases gk with
    | zero => exact absurd HA.out (by simp [impl_treeDrops.l0])
    | succ k1 =>
      have H := HA.out
      clear HA
      simp only [impl_treeDrops.l0] at H
      by_cases c5 : (x0_1.length : Int) > 0
      · rw [if_pos c5] at H
        have c5b0 : decide (0 < (x0_1.length : Int)) = true := decide_eq_true c5
        have c5b1 : decide (0 < x0_1.length) = true := decide_eq_true (by omega)
        clear c5
        replace H := Option.bind_eq_some_iff.mp H
        obtain ⟨⟨t194, t195⟩, A60, H⟩ := H
        replace H : (if 0 < (x0_1.length : Int) then (if (wrap64 (x6_1 + (rd x0_1 0))) > a1 then (if x5_1.length < 8796093022208 then (impl_treeDrops.l0 k1 t194 a1 (x5_1 ++ [(⟨wrap64 (x6_1 + (rd x0_1 0)), true⟩ : S56)]) x6_1) else (none)) else (if x5_1.length < 8796093022208 then (impl_treeDrops.l0 k1 t195 a1 (x5_1 ++ [(⟨wrap64 (x6_1 + (rd x0_1 0)), false⟩ : S56)]) (wrap64 (x6_1 + (rd x0_1 0)))) else (none))) else (none)) = some r := H
        have A6 := Aside0.mk A60
        clear A60
        by_cases c7 : 0 < (x0_1.length : Int)
        · rw [if_pos c7] at H
          have c7b0 : decide (0 < (x0_1.length : Int)) = true := decide_eq_true c7
          have c7b1 : decide (0 < x0_1.length) = true := decide_eq_true (by omega)
          clear c7
          by_cases c8 : (wrap64 (x6_1 + (rd x0_1 0))) > a1
          · rw [if_pos c8] at H
            have c8b0 : decide (a1 < (wrap64 (x6_1 + (rd x0_1 0)))) = true := decide_eq_true c8
            clear c8
            by_cases c9 : x5_1.length < 8796093022208
            · rw [if_pos c9] at H
              have LMc9 := Aside0.mk c9
              clear c9
              obtain ⟨y201, hy201⟩ : ∃ y_ : List (S56), y_ = (x5_1 ++ [(⟨wrap64 (x6_1 + (rd x0_1 0)), true⟩ : S56)]) := ⟨_, rfl⟩
              replace H : (impl_treeDrops.l0 k1 t194 a1 y201 x6_1) = some r := by first | (rw [hy201]; with_reducible exact H) | (have H2_ := (Option.bind_some _ _).symm.trans H; rw [hy201]; with_reducible exact H2_) | (have H2_ := (Option.bind_some _ _).symm.trans H; with_reducible exact H2_) | with_reducible exact H | (rw [hy201]; exact H) | exact H
              have Ny201 := Aside0.mk hy201
              clear hy201
              have H' := Aside0.mk H
              clear H
              obtain ⟨Ao10, co10, eo10⟩ := Kd.V_slice HO_0.out
              subst eo10
              go_wp2_with (first | ((with_reducible refine gate_callee (f := 43) rfl ?_); refine goesL_ (some 16) rfl rfl Try.func43 (by kernel_rfl) rfl #[.slice Ao10 x0_1.length co10] rfl (by (try simp only [List.map_toArray, List.map_cons, List.map_nil]); first | done | rfl | (simp only [List.length_drop, List.length_take]; rfl)) ?_; (with_reducible refine (impl_parts.calls k1 _ _ x0_1 t194 t195 _ ?side1 ?side2 A6.out).mono ?_); (case side1 => repeat (first | exact (Kd.V_reads' HO_0.out).2.2 | (with_reducible refine Kd.C_alloc ?_ _) | (with_reducible refine Kd.C_drewN ?_ _) | (with_reducible refine Kd.C_drew ?_))); (case side2 => exact (Kd.V_reads' HO_0.out).2.1); rintro e w11 ⟨v196, v198, rfl, ho0, ho1, hb⟩; refine ⟨_, rfl, ?_⟩; have n0_ := Aside0.mk (Kd.V_mono (Kd.V_told (Kd.V_told (Kd.V_old (by (with_reducible repeat (first | apply Kd.V_alloc | apply Kd.V_drewN | apply Kd.V_drew)); exact HO_0.out) hb) (Kd.R_base ho0)) (Kd.R_base ho1)) (fun _ h_ => h_.1)); have n1_ := Aside0.mk (Kd.R_below (by (with_reducible repeat (first | apply Kd.R_alloc | apply Kd.R_drewN | apply Kd.R_drew)); exact HO_5.out) hb); have n2_ := Aside0.mk (Kd.R_lower (Kd.R_newM (M := fun k_ => (w.heap.size ≤ k_)) ho0 (below_size (by repeat (first | (with_reducible first | exact HB.out | apply below_alloc | apply pw_below_drewN | apply below_drew1) | exact HB.out))) (fun k_ h_ => h_)) (below_size (by repeat (first | (with_reducible first | exact HB.out | apply below_alloc | apply pw_below_drewN | apply below_drew1) | exact HB.out)))); have n3_ := Aside0.mk (Kd.R_lower (Kd.R_newM (M := fun k_ => (w.heap.size ≤ k_)) ho1 (below_size (by repeat (first | (with_reducible first | exact HB.out | apply below_alloc | apply pw_below_drewN | apply below_drew1) | exact HB.out))) (fun k_ h_ => h_)) (below_size (by repeat (first | (with_reducible first | exact HB.out | apply below_alloc | apply pw_below_drewN | apply below_drew1) | exact HB.out)))); have n4_ := Aside0.mk (below_step (by repeat (first | (with_reducible first | exact HB.out | apply below_alloc | apply pw_below_drewN | apply below_drew1) | exact HB.out)) hb); clear HO_0; clear HO_5; clear HB; have HO_0 := n0_; have HO_5 := n1_; have HO197 := n2_; have HO199 := n3_; have HB := n4_; clear n0_ n1_ n2_ n3_ n4_; (try clear hb); (try clear hb2); (try clear hk); (try clear hi); (try clear ho0); (try clear ho1); have p200 : 0 ≤ (0 : Int) := (by omega); have q200 : 0 < (x0_1.length : Int) := of_decide_eq_true (by first | (with_reducible assumption) | assumption); obtain ⟨ad200, e200, hx200_0⟩ := Kd.at_int (Kd.V_reads' HO_0.out).2.2 0 p200 q200; cases e200; have qi200 : (0 < x0_1.length) = True := eq_true (by omega); (try rw [show ((0 : Int)).toNat = 0 from rfl] at hx200_0); (try rw [Addr.add_zero'] at hx200_0); replace p200 := eq_true p200; replace q200 := eq_true q200) | ((with_reducible refine gate_builtin (b := .append) (xs := #[.tmp 27, .tmp 30]) rfl ?_); at_builtin; refine Kd.R_append k56 (w0 := w) w.heap.size rfl (.tmp 27) (.tmp 30) 33 56 (.agg #[(.int .i64 0), (.bool false)]) 16 rfl Try.underlying33 info56 rfl (by decide) (by omega) u5 x5_1 (⟨wrap64 (x6_1 + (rd x0_1 0)), true⟩ : S56) [.int .i64 (wrap64 (x6_1 + (rd x0_1 0))), .bool true] (fun k_ => (w.heap.size ≤ k_)) (fun _ => False) rfl rfl ?aP (fun _ hk => hk.elim) ?aF ?aO ?aB ?aS ?aL ?_; (case aP => exact k56_mkM _ _ _ (⟨wrap64 (x6_1 + (rd x0_1 0)), true⟩ : S56)); (case aB => exact (by repeat (first | (with_reducible first | exact HB.out | apply below_alloc | apply pw_below_drewN | apply below_drew1) | exact HB.out))); (case aF => exact (fun k_ hk => (Nat.le_trans (below_size (by repeat (first | (with_reducible first | exact HB.out | apply below_alloc | apply pw_below_drewN | apply below_drew1) | exact HB.out))) hk))); (case aO => exact (by (with_reducible repeat (first | apply Kd.R_alloc | apply Kd.R_drewN | apply Kd.R_drew)); exact HO_5.out)); (case aS => exact (below_size (by repeat (first | (with_reducible first | exact HB.out | apply below_alloc | apply pw_below_drewN | apply below_drew1) | exact HB.out)))); (case aL => have := LMc9.out; omega); intro v202 w12 ho hb hg hat; rw [← Ny201.out] at ho; have n0_ := Aside0.mk (Kd.V_afterv (ok := (fun k_ => (P0_ k_ ∨ w.heap.size ≤ k_) ∧ some k_ ≠ (v196 : Value).ownBlock ∧ some k_ ≠ (v198 : Value).ownBlock)) (by (with_reducible repeat (first | apply Kd.V_alloc | apply Kd.V_drewN | apply Kd.V_drew)); exact Kd.V_mono HO_0.out (fun _ hk => ⟨⟨hk.1.1.1, ⟨hk.1.2, hk.2⟩⟩, hk.1.1.2⟩)) hg hat); have n1_ := Aside0.mk (Kd.R_over' (by (with_reducible repeat (first | apply Kd.R_alloc | apply Kd.R_drewN | apply Kd.R_drew)); exact HO197.out) (Kd.R_typed (by (with_reducible repeat (first | apply Kd.R_alloc | apply Kd.R_drewN | apply Kd.R_drew)); exact HO_5.out)) (by decide) hg); have n2_ := Aside0.mk (Kd.R_over' (by (with_reducible repeat (first | apply Kd.R_alloc | apply Kd.R_drewN | apply Kd.R_drew)); exact HO199.out) (Kd.R_typed (by (with_reducible repeat (first | apply Kd.R_alloc | apply Kd.R_drewN | apply Kd.R_drew)); exact HO_5.out)) (by decide) hg); have n3_ := Aside0.mk (hb); have n4_ := Aside0.mk (ho); clear HO_0; clear HO197; clear HO199; clear HB; clear HO_5; have HO_0 := n0_; have HO197 := n1_; have HO199 := n2_; have HB := n3_; have HO203 := n4_; clear n0_ n1_ n2_ n3_ n4_; clear ho hb hg hat))
              go_roundg k1
              case measure => have := HK1.out; omega
              case rel => exact ⟨(t194), (y201), (x6_1), (by first | rfl | (simp; done) | (simp [*]; done)), H', ⟨by have := HK1.out; omega⟩, ⟨Kd.V_mono (Kd.R_V (by (with_reducible repeat (first | apply Kd.R_alloc | apply Kd.R_drewN | apply Kd.R_drew)); exact (Kd.R_apart' HO197.out (Kd.R_typed HO203.out) (by decide)))) (fun k_ hk => by first | exact ⟨Or.inr hk.1.1, hk.2⟩ | exact ⟨Or.inr hk.1.2, hk.2⟩ | exact ⟨Or.inr hk.1, hk.2⟩)⟩, ⟨by (with_reducible repeat (first | apply Kd.R_alloc | apply Kd.R_drewN | apply Kd.R_drew)); exact HO203.out⟩, ⟨by repeat (first | (with_reducible first | exact HB.out | apply below_alloc | apply pw_below_drewN | apply below_drew1) | exact HB.out)⟩⟩
            · rw [if_neg c9] at H
              exact absurd H (by simp)
          · rw [if_neg c8] at H
            have c8b0 : decide (a1 < (wrap64 (x6_1 + (rd x0_1 0)))) = false := decide_eq_false c8
            clear c8
            by_cases c13 : x5_1.length < 8796093022208
            · rw [if_pos c13] at H
              have LMc13 := Aside0.mk c13
              clear c13
              obtain ⟨y204, hy204⟩ : ∃ y_ : List (S56), y_ = (x5_1 ++ [(⟨wrap64 (x6_1 + (rd x0_1 0)), false⟩ : S56)]) := ⟨_, rfl⟩
              replace H : (impl_treeDrops.l0 k1 t195 a1 y204 (wrap64 (x6_1 + (rd x0_1 0)))) = some r := by first | (rw [hy204]; with_reducible exact H) | (have H2_ := (Option.bind_some _ _).symm.trans H; rw [hy204]; with_reducible exact H2_) | (have H2_ := (Option.bind_some _ _).symm.trans H; with_reducible exact H2_) | with_reducible exact H | (rw [hy204]; exact H) | exact H
              have Ny204 := Aside0.mk hy204
              clear hy204
              have H' := Aside0.mk H
              clear H
              obtain ⟨Ao14, co14, eo14⟩ := Kd.V_slice HO_0.out
              subst eo14
              go_wp2_with (first | ((with_reducible refine gate_callee (f := 43) rfl ?_); refine goesL_ (some 16) rfl rfl Try.func43 (by kernel_rfl) rfl #[.slice Ao14 x0_1.length co14] rfl (by (try simp only [List.map_toArray, List.map_cons, List.map_nil]); first | done | rfl | (simp only [List.length_drop, List.length_take]; rfl)) ?_; (with_reducible refine (impl_parts.calls k1 _ _ x0_1 t194 t195 _ ?side1 ?side2 A6.out).mono ?_); (case side1 => repeat (first | exact (Kd.V_reads' HO_0.out).2.2 | (with_reducible refine Kd.C_alloc ?_ _) | (with_reducible refine Kd.C_drewN ?_ _) | (with_reducible refine Kd.C_drew ?_))); (case side2 => exact (Kd.V_reads' HO_0.out).2.1); rintro e w15 ⟨v196, v198, rfl, ho0, ho1, hb⟩; refine ⟨_, rfl, ?_⟩; have n0_ := Aside0.mk (Kd.V_mono (Kd.V_told (Kd.V_told (Kd.V_old (by (with_reducible repeat (first | apply Kd.V_alloc | apply Kd.V_drewN | apply Kd.V_drew)); exact HO_0.out) hb) (Kd.R_base ho0)) (Kd.R_base ho1)) (fun _ h_ => h_.1)); have n1_ := Aside0.mk (Kd.R_below (by (with_reducible repeat (first | apply Kd.R_alloc | apply Kd.R_drewN | apply Kd.R_drew)); exact HO_5.out) hb); have n2_ := Aside0.mk (Kd.R_lower (Kd.R_newM (M := fun k_ => (w.heap.size ≤ k_)) ho0 (below_size (by repeat (first | (with_reducible first | exact HB.out | apply below_alloc | apply pw_below_drewN | apply below_drew1) | exact HB.out))) (fun k_ h_ => h_)) (below_size (by repeat (first | (with_reducible first | exact HB.out | apply below_alloc | apply pw_below_drewN | apply below_drew1) | exact HB.out)))); have n3_ := Aside0.mk (Kd.R_lower (Kd.R_newM (M := fun k_ => (w.heap.size ≤ k_)) ho1 (below_size (by repeat (first | (with_reducible first | exact HB.out | apply below_alloc | apply pw_below_drewN | apply below_drew1) | exact HB.out))) (fun k_ h_ => h_)) (below_size (by repeat (first | (with_reducible first | exact HB.out | apply below_alloc | apply pw_below_drewN | apply below_drew1) | exact HB.out)))); have n4_ := Aside0.mk (below_step (by repeat (first | (with_reducible first | exact HB.out | apply below_alloc | apply pw_below_drewN | apply below_drew1) | exact HB.out)) hb); clear HO_0; clear HO_5; clear HB; have HO_0 := n0_; have HO_5 := n1_; have HO197 := n2_; have HO199 := n3_; have HB := n4_; clear n0_ n1_ n2_ n3_ n4_; (try clear hb); (try clear hb2); (try clear hk); (try clear hi); (try clear ho0); (try clear ho1); have p200 : 0 ≤ (0 : Int) := (by omega); have q200 : 0 < (x0_1.length : Int) := of_decide_eq_true (by first | (with_reducible assumption) | assumption); obtain ⟨ad200, e200, hx200_0⟩ := Kd.at_int (Kd.V_reads' HO_0.out).2.2 0 p200 q200; cases e200; have qi200 : (0 < x0_1.length) = True := eq_true (by omega); (try rw [show ((0 : Int)).toNat = 0 from rfl] at hx200_0); (try rw [Addr.add_zero'] at hx200_0); replace p200 := eq_true p200; replace q200 := eq_true q200) | ((with_reducible refine gate_builtin (b := .append) (xs := #[.tmp 33, .tmp 36]) rfl ?_); at_builtin; refine Kd.R_append k56 (w0 := w) w.heap.size rfl (.tmp 33) (.tmp 36) 33 56 (.agg #[(.int .i64 0), (.bool false)]) 16 rfl Try.underlying33 info56 rfl (by decide) (by omega) u5 x5_1 (⟨wrap64 (x6_1 + (rd x0_1 0)), false⟩ : S56) [.int .i64 (wrap64 (x6_1 + (rd x0_1 0))), .bool false] (fun k_ => (w.heap.size ≤ k_)) (fun _ => False) rfl rfl ?aP (fun _ hk => hk.elim) ?aF ?aO ?aB ?aS ?aL ?_; (case aP => exact k56_mkM _ _ _ (⟨wrap64 (x6_1 + (rd x0_1 0)), false⟩ : S56)); (case aB => exact (by repeat (first | (with_reducible first | exact HB.out | apply below_alloc | apply pw_below_drewN | apply below_drew1) | exact HB.out))); (case aF => exact (fun k_ hk => (Nat.le_trans (below_size (by repeat (first | (with_reducible first | exact HB.out | apply below_alloc | apply pw_below_drewN | apply below_drew1) | exact HB.out))) hk))); (case aO => exact (by (with_reducible repeat (first | apply Kd.R_alloc | apply Kd.R_drewN | apply Kd.R_drew)); exact HO_5.out)); (case aS => exact (below_size (by repeat (first | (with_reducible first | exact HB.out | apply below_alloc | apply pw_below_drewN | apply below_drew1) | exact HB.out)))); (case aL => have := LMc13.out; omega); intro v205 w16 ho hb hg hat; rw [← Ny204.out] at ho; have n0_ := Aside0.mk (Kd.V_afterv (ok := (fun k_ => (P0_ k_ ∨ w.heap.size ≤ k_) ∧ some k_ ≠ (v196 : Value).ownBlock ∧ some k_ ≠ (v198 : Value).ownBlock)) (by (with_reducible repeat (first | apply Kd.V_alloc | apply Kd.V_drewN | apply Kd.V_drew)); exact Kd.V_mono HO_0.out (fun _ hk => ⟨⟨hk.1.1.1, ⟨hk.1.2, hk.2⟩⟩, hk.1.1.2⟩)) hg hat); have n1_ := Aside0.mk (Kd.R_over' (by (with_reducible repeat (first | apply Kd.R_alloc | apply Kd.R_drewN | apply Kd.R_drew)); exact HO197.out) (Kd.R_typed (by (with_reducible repeat (first | apply Kd.R_alloc | apply Kd.R_drewN | apply Kd.R_drew)); exact HO_5.out)) (by decide) hg); have n2_ := Aside0.mk (Kd.R_over' (by (with_reducible repeat (first | apply Kd.R_alloc | apply Kd.R_drewN | apply Kd.R_drew)); exact HO199.out) (Kd.R_typed (by (with_reducible repeat (first | apply Kd.R_alloc | apply Kd.R_drewN | apply Kd.R_drew)); exact HO_5.out)) (by decide) hg); have n3_ := Aside0.mk (hb); have n4_ := Aside0.mk (ho); clear HO_0; clear HO197; clear HO199; clear HB; clear HO_5; have HO_0 := n0_; have HO197 := n1_; have HO199 := n2_; have HB := n3_; have HO206 := n4_; clear n0_ n1_ n2_ n3_ n4_; clear ho hb hg hat))
              go_roundg k1
              case measure => have := HK1.out; omega
              case rel => exact ⟨(t195), (y204), (wrap64 (x6_1 + (rd x0_1 0))), (by first | rfl | (simp; done) | (simp [*]; done)), H', ⟨by have := HK1.out; omega⟩, ⟨Kd.V_mono (Kd.R_V (by (with_reducible repeat (first | apply Kd.R_alloc | apply Kd.R_drewN | apply Kd.R_drew)); exact (Kd.R_apart' HO199.out (Kd.R_typed HO206.out) (by decide)))) (fun k_ hk => by first | exact ⟨Or.inr hk.1.1, hk.2⟩ | exact ⟨Or.inr hk.1.2, hk.2⟩ | exact ⟨Or.inr hk.1, hk.2⟩)⟩, ⟨by (with_reducible repeat (first | apply Kd.R_alloc | apply Kd.R_drewN | apply Kd.R_drew)); exact HO206.out⟩, ⟨by repeat (first | (with_reducible first | exact HB.out | apply below_alloc | apply pw_below_drewN | apply below_drew1) | exact HB.out)⟩⟩
            · rw [if_neg c13] at H
              exact absurd H (by simp)
        · rw [if_neg c7] at H
          exact absurd H (by simp)
      · rw [if_neg c5] at H
        have c5b0 : decide (0 < (x0_1.length : Int)) = false := decide_eq_false c5
        have c5b1 : decide (0 < x0_1.length) = false := decide_eq_false (by omega)
        clear c5
        obtain rfl := Option.some.inj H
        obtain ⟨Ao17, co17, eo17⟩ := Kd.V_slice HO_0.out
        subst eo17
        go_wp2
        go_ret
        exact ⟨_, by first | rfl | (simp [errW_none, errW_some] <;> rfl) | (simp [*, errW_none, errW_some] <;> rfl), by (with_reducible repeat (first | apply Kd.R_alloc | apply Kd.R_drewN | apply Kd.R_drew)); exact HO_5.out, by repeat (first | (with_reducible first | exact HB.out | apply below_alloc | apply pw_below_drewN | apply below_drew1) | exact HB.out)⟩

/-! behind impl_treeDrops -/
def dropsT : Tr → Int → Int → List S56 → List S56
  | .nil, _, _, acc => acc
  | .node b a, low, x, acc => if low + (b.size + 1) > x then dropsT b low x (acc ++ [⟨low + (b.size + 1), true⟩]) else dropsT a (low + (b.size + 1)) x (acc ++ [⟨low + (b.size + 1), false⟩])
theorem dropsT_len : ∀ (t : Tr) (low x : Int) (acc : List S56), (dropsT t low x acc).length = acc.length + t.lenT (x - low)
  | .nil, _, _, acc => rfl
  | .node b a, low, x, acc => by
    simp only [dropsT, Tr.lenT]
    by_cases h : low + ((b.size : Int) + 1) > x
    · rw [if_pos h, if_pos (by omega), dropsT_len b]
      simp; omega
    · rw [if_neg h, if_neg (by omega), dropsT_len a, show x - (low + ((b.size : Int) + 1)) = x - low - ((b.size : Int) + 1) by omega]
      simp; omega
theorem impl_treeDrops_l0 : ∀ (t : Tr) (k : Nat) (x low : Int) (acc : List S56), 0 ≤ low → low + t.size ≤ 1000 → 2 * t.size < k → acc.length + t.size ≤ 1000 →
    impl_treeDrops.l0 k (t.toL 1) x acc low = some (dropsT t low x acc)
  | .nil, k, x, low, acc, _, _, hk, _ => by
    obtain ⟨k, rfl⟩ : ∃ m, k = m + 1 := ⟨k - 1, by omega⟩
    rw [impl_treeDrops.l0, if_neg (by simp [Tr.toL])]; rfl
  | .node b a, k, x, low, acc, h0, h1, hk, ha => by
    obtain ⟨k, rfl⟩ : ∃ m, k = m + 1 := ⟨k - 1, by omega⟩
    have hln := Tr.toL_length (Tr.node b a) 1
    have hsz : (Tr.node b a).size = b.size + a.size + 1 := rfl
    have hr : rd ((Tr.node b a).toL 1) 0 = ((b.size + 1 : Nat) : Int) := by simp only [Tr.toL, rd_cons0]; omega
    have e1 : wrap64 (low + ((b.size + 1 : Nat) : Int)) = low + ((b.size : Int) + 1) := by unfold wrap64; omega
    rw [impl_treeDrops.l0, if_pos (by omega), impl_parts_is b a k (by omega) (by omega), Option.bind_some, if_pos (by omega), hr, e1]
    simp only [dropsT]
    by_cases h : low + ((b.size : Int) + 1) > x
    · rw [if_pos h, if_pos h, if_pos (by omega)]
      exact impl_treeDrops_l0 b k x low _ h0 (by omega) (by omega) (by simp; omega)
    · rw [if_neg h, if_neg h, if_pos (by omega)]
      exact impl_treeDrops_l0 a k x _ _ (by omega) (by omega) (by omega) (by simp; omega)
theorem impl_treeDrops_is (t : Tr) (k : Nat) (x : Int) (ht : t.size ≤ 500) (hk : 2 * t.size < k) : impl_treeDrops.f k (t.toL 1) x = some (dropsT t 0 x []) :=
  impl_treeDrops_l0 t k x 0 [] (by omega) (by omega) hk (by simp; omega)


/-! ### impl_SumOfTree: function 23 -/
def impl_SumOfTree.l0 : Nat → List Int → Int → Int → Int → Option (Int × Bool)
  | 0, _, _, _, _ => none
  | k + 1, x0, x4, x11, x12 => if x12 < x11 then ((impl_treeDrops.f k x0 x12).bind fun t208 => (impl_SumOfTree.l0 k x0 (wrap64 (x4 + (t208.length : Int))) x11 (wrap64 (x12 + 1)))) else (some (x4, true))
def impl_SumOfTree.f (k : Nat) (l0 : List Int) : Option (Int × Bool) := (impl_IsTree.f k l0).bind fun t207 => (if t207 = true then (impl_SumOfTree.l0 k l0 0 (wrap64 ((l0.length : Int) + 1)) 0) else (some (0, false)))
theorem impl_SumOfTree.mono_l : ∀ k, (∀ y0 y1 y2 y3, LeO (impl_SumOfTree.l0 k y0 y1 y2 y3) (impl_SumOfTree.l0 (k + 1) y0 y1 y2 y3))
  | 0 => fun _ _ _ _ r h => by simp [impl_SumOfTree.l0] at h
  | k + 1 => by
    have ih0 := impl_SumOfTree.mono_l k
    · intro y0 y1 y2 y3
      unfold impl_SumOfTree.l0
      repeat' first
      | (with_reducible exact ih0 _ _ _ _)
      | (with_reducible exact impl_IsTree.mono _ _)
      | (with_reducible exact impl_treeDrops.mono _ _ _)
      | (with_reducible exact LeO.refl _)
      | (with_reducible exact LeO.none _)
      | (with_reducible refine LeO.ite ?_ ?_)
      | (with_reducible refine LeO.bind ?_ (fun _ => ?_))
      | exact ih0 _ _ _ _
      | exact impl_IsTree.mono _ _
      | exact impl_treeDrops.mono _ _ _
      | exact LeO.none _
      | refine LeO.ite ?_ ?_
      | refine LeO.bind ?_ (fun _ => ?_)
theorem impl_SumOfTree.mono : ∀ a0 k, LeO (impl_SumOfTree.f k a0) (impl_SumOfTree.f (k + 1) a0) := by
  intro a0 k
  have ih0 := impl_SumOfTree.mono_l k
  unfold impl_SumOfTree.f
  repeat' first
      | (with_reducible exact ih0 _ _ _ _)
      | (with_reducible exact impl_IsTree.mono _ _)
      | (with_reducible exact impl_treeDrops.mono _ _ _)
      | (with_reducible exact LeO.refl _)
      | (with_reducible exact LeO.none _)
      | (with_reducible refine LeO.ite ?_ ?_)
      | (with_reducible refine LeO.bind ?_ (fun _ => ?_))
      | exact ih0 _ _ _ _
      | exact impl_IsTree.mono _ _
      | exact impl_treeDrops.mono _ _ _
      | exact LeO.none _
      | refine LeO.ite ?_ ?_
      | refine LeO.bind ?_ (fun _ => ?_)
set_option maxHeartbeats 8000000 in
set_option maxRecDepth 100000 in
theorem impl_SumOfTree.calls (k : Nat) (A0 : Option Addr) (c0 : Nat) (l0 : List Int) (r1 : Int) (r2 : Bool) (w : World) (hr0 : Kd.C (Kd.int .i64) w A0 l0.length l0) (hc0 : l0.length ≤ c0) (h : impl_SumOfTree.f k l0 = some (r1, r2)) :
    Calls Try.prog 23 #[.slice A0 l0.length c0] w fun e w' => e = .returned (.tuple #[.int .i64 r1, .bool r2]) ∧ Below w.heap.size w w' := by
  have HR0 := Aside0.mk hr0
  have HC0 := Aside0.mk hc0
  clear hr0 hc0
  have HB := Aside0.mk (Below.refl w.heap.size w)
  have H : ((impl_IsTree.f k l0).bind fun t207 => (if t207 = true then (impl_SumOfTree.l0 k l0 0 (wrap64 ((l0.length : Int) + 1)) 0) else (some (0, false)))) = some (r1, r2) := h
  clear h
  replace H := Option.bind_eq_some_iff.mp H
  obtain ⟨t207, A20, H⟩ := H
  replace H : (if t207 = true then (impl_SumOfTree.l0 k l0 0 (wrap64 ((l0.length : Int) + 1)) 0) else (some (0, false))) = some (r1, r2) := H
  have A2 := Aside0.mk A20
  clear A20
  by_cases c3 : t207 = true
  · subst c3
    have H1 : (impl_SumOfTree.l0 k l0 0 (wrap64 ((l0.length : Int) + 1)) 0) = some (r1, r2) := by rw [if_pos rfl] at H; exact H
    clear H
    have H := H1
    clear H1
    have H' := Aside0.mk H
    clear H
    go_enter Try.func23, Try.ntmps23
    go_wp2_with (first | ((with_reducible refine gate_callee (f := 38) rfl ?_); refine goesL_ (some 7) rfl rfl Try.func38 (by kernel_rfl) rfl #[.slice A0 l0.length c0] rfl (by (try simp only [List.map_toArray, List.map_cons, List.map_nil]); first | done | rfl | (simp only [List.length_drop, List.length_take]; rfl)) ?_; (with_reducible refine (impl_IsTree.calls k _ _ l0 true _ ?side1 ?side2 A2.out).mono ?_); (case side1 => repeat (first | exact HR0.out | (with_reducible refine Kd.C_alloc ?_ _) | (with_reducible refine Kd.C_drewN ?_ _) | (with_reducible refine Kd.C_drew ?_))); (case side2 => exact HC0.out); rintro e w' ⟨rfl, ⟨nd, rfl⟩⟩; refine ⟨_, rfl, ?_⟩))
    go_loopg [4, 12] k (fun kq v4 v12 w' => ∃ (x4_1 : Int) (x12_1 : Int), v4 = .int .i64 x4_1 ∧ v12 = .int .i64 x12_1 ∧ Aside0 (impl_SumOfTree.l0 kq l0 x4_1 (wrap64 ((l0.length : Int) + 1)) x12_1 = some (r1, r2)) ∧ Aside0 (kq ≤ k) ∧ Aside0 (Below w.heap.size w w'))
    case atStart => exact ⟨(0), (0), (by first | rfl | (simp; done) | (simp [*]; done)), (by first | rfl | (simp; done) | (simp [*]; done)), H', ⟨Nat.le_refl _⟩, ⟨by repeat (first | (with_reducible first | exact HB.out | apply below_alloc | apply pw_below_drewN | apply below_drew1) | exact HB.out)⟩⟩
    case round =>
      clear H'
      try clear c2
      try clear p2
      try clear c3
      obtain ⟨x4_1, x12_1, rfl, rfl, HA, HK1, HB⟩ := hrel
      cases gk with
      | zero => exact absurd HA.out (by simp [impl_SumOfTree.l0])
      | succ k1 =>
        have H := HA.out
        clear HA
        simp only [impl_SumOfTree.l0] at H
        by_cases c4 : x12_1 < (wrap64 ((l0.length : Int) + 1))
        · rw [if_pos c4] at H
          have c4b0 : decide (x12_1 < (wrap64 ((l0.length : Int) + 1))) = true := decide_eq_true c4
          clear c4
          replace H := Option.bind_eq_some_iff.mp H
          obtain ⟨t208, A50, H⟩ := H
          replace H : (impl_SumOfTree.l0 k1 l0 (wrap64 (x4_1 + (t208.length : Int))) (wrap64 ((l0.length : Int) + 1)) (wrap64 (x12_1 + 1))) = some (r1, r2) := H
          have A5 := Aside0.mk A50
          clear A50
          have H' := Aside0.mk H
          clear H
          go_wp2_with (first | ((with_reducible refine gate_callee (f := 44) rfl ?_); refine goesL_ (some 18) rfl rfl Try.func44 (by kernel_rfl) rfl #[.slice A0 l0.length c0, .int .i64 x12_1] rfl (by (try simp only [List.map_toArray, List.map_cons, List.map_nil]); first | done | rfl | (simp only [List.length_drop, List.length_take]; rfl)) ?_; (with_reducible refine (impl_treeDrops.calls k1 (fun k_ => k_ < w.heap.size) _ _ l0 x12_1 t208 _ ?side1 A5.out).mono ?_); (case side1 => exact Kd.V_mk HC0.out (Kd.F_below (Kd.C_F (Kd.heap_int .i64) HR0.out) (by repeat (first | (with_reducible first | exact HB.out | apply below_alloc | apply pw_below_drewN | apply below_drew1) | exact HB.out)))); rintro e w6 ⟨v209, rfl, ho0, hb⟩; refine ⟨_, rfl, ?_⟩; have n0_ := Aside0.mk (Kd.R_lower (Kd.R_mono (ok' := fun k_ => True) ho0 (fun _ hk_ => trivial)) (below_size (by repeat (first | (with_reducible first | exact HB.out | apply below_alloc | apply pw_below_drewN | apply below_drew1) | exact HB.out)))); have n1_ := Aside0.mk (below_step (by repeat (first | (with_reducible first | exact HB.out | apply below_alloc | apply pw_below_drewN | apply below_drew1) | exact HB.out)) hb); clear HB; have HO210 := n0_; have HB := n1_; clear n0_ n1_; (try clear hb); (try clear hb2); (try clear hk); (try clear hi); (try clear ho0); obtain ⟨Ao7, co7, eo7⟩ := Kd.R_slice HO210.out; subst eo7))
          go_roundg k1
          case measure => have := HK1.out; omega
          case rel => exact ⟨(wrap64 (x4_1 + (t208.length : Int))), (wrap64 (x12_1 + 1)), (by first | rfl | (simp; done) | (simp [*]; done)), (by first | rfl | (simp; done) | (simp [*]; done)), H', ⟨by have := HK1.out; omega⟩, ⟨by repeat (first | (with_reducible first | exact HB.out | apply below_alloc | apply pw_below_drewN | apply below_drew1) | exact HB.out)⟩⟩
        · rw [if_neg c4] at H
          have c4b0 : decide (x12_1 < (wrap64 ((l0.length : Int) + 1))) = false := decide_eq_false c4
          clear c4
          simp only [Option.some.injEq, Prod.mk.injEq] at H
          obtain ⟨rfl, rfl⟩ := H
          go_wp2
          go_ret2
          exact ⟨by first | rfl | (simp [errW_none, errW_some] <;> rfl) | (simp [*, errW_none, errW_some] <;> rfl), by repeat (first | (with_reducible first | exact HB.out | apply below_alloc | apply pw_below_drewN | apply below_drew1) | exact HB.out)⟩
  · replace c3 := Bool.eq_false_iff.mpr c3
    subst c3
    have H1 : (some (0, false)) = some (r1, r2) := by rw [if_neg (show ¬ (false = true) by decide)] at H; exact H
    clear H
    have H := H1
    clear H1
    simp only [Option.some.injEq, Prod.mk.injEq] at H
    obtain ⟨rfl, rfl⟩ := H
    go_enter Try.func23, Try.ntmps23
    go_wp2_with (first | ((with_reducible refine gate_callee (f := 38) rfl ?_); refine goesL_ (some 7) rfl rfl Try.func38 (by kernel_rfl) rfl #[.slice A0 l0.length c0] rfl (by (try simp only [List.map_toArray, List.map_cons, List.map_nil]); first | done | rfl | (simp only [List.length_drop, List.length_take]; rfl)) ?_; (with_reducible refine (impl_IsTree.calls k _ _ l0 false _ ?side1 ?side2 A2.out).mono ?_); (case side1 => repeat (first | exact HR0.out | (with_reducible refine Kd.C_alloc ?_ _) | (with_reducible refine Kd.C_drewN ?_ _) | (with_reducible refine Kd.C_drew ?_))); (case side2 => exact HC0.out); rintro e w' ⟨rfl, ⟨nd, rfl⟩⟩; refine ⟨_, rfl, ?_⟩))
    go_ret2
    exact ⟨by first | rfl | (simp [errW_none, errW_some] <;> rfl) | (simp [*, errW_none, errW_some] <;> rfl), by repeat (first | (with_reducible first | exact HB.out | apply below_alloc | apply pw_below_drewN | apply below_drew1) | exact HB.out)⟩

/-! ### laws_FnExactSumOfTree: function 6, a law -/
/-- THE ONE PURE STATEMENT of laws_FnExactSumOfTree. -/
def laws_FnExactSumOfTree.Pure : Prop := ∀ (l0 : List Int), (∀ x ∈ l0, (Lit.int .i64 x).wf = true) → l0.length ≤ 1000000 → ∃ (k1 : Nat) (k2 : Nat) (r1 : Int) (r2 : Bool), spec_SumOfTree.f k1 l0 = some (r1, r2) ∧ impl_SumOfTree.f k2 l0 = some (r1, r2)
set_option maxHeartbeats 8000000 in
set_option maxRecDepth 100000 in
theorem laws_FnExactSumOfTree.alike (k1 : Nat) (k2 : Nat) (A0 : Option Addr) (c0 : Nat) (l0 : List Int) (r1 : Int) (r2 : Bool) (w : World) (hr0 : Kd.C (Kd.int .i64) w A0 l0.length l0) (hc0 : l0.length ≤ c0) (hl : l0.length ≤ 1000000) (hs : spec_SumOfTree.f k1 l0 = some (r1, r2)) (hi : impl_SumOfTree.f k2 l0 = some (r1, r2)) :
    Calls Try.prog 6 #[.slice A0 l0.length c0] w fun e w' => e = .returned (.bool true) ∧ Below w.heap.size w w' := by
  have HR0 := Aside0.mk hr0
  have HC0 := Aside0.mk hc0
  clear hr0 hc0
  have HL0 : Aside0 (l0.length ≤ 1000000) := ⟨by omega⟩
  have HS := Aside0.mk hs
  have HI := Aside0.mk hi
  clear hs hi
  have HB := Aside0.mk (Below.refl w.heap.size w)
  go_enter Try.func6, Try.ntmps6
  go_wp2_with fail
  refine (toIntS_full _ c0 l0 _ (Kd.C_below HR0.out HB.out) HL0.out).mono ?_
  rintro e w1_ ⟨g3_, c4_, rfl, hf, hb⟩
  have HB0 : Aside0 (w.heap.size ≤ w.heap.size) := ⟨HB.out.size⟩
  have HZ1 : Aside0 (w.heap.size ≤ w1_.heap.size) := ⟨hb.size⟩
  have HB_ := Aside0.mk (below_step HB.out hb)
  clear HB hb
  have HB := HB_
  clear HB_
  have F2_ := Aside0.mk (show FullG w1_ w.heap.size (Btw w.heap.size w1_.heap.size) _ _ _ from r_btw hf (by have := HB0.out; exact this))
  clear hf HB0
  go_wp2_with fail
  refine (spec_SumOfTree.calls k1 (some ⟨g3_, 0, none⟩) c4_ l0 r1 r2 _ (FullG.reads F2_.out).2 (FullG.reads F2_.out).1 HS.out).mono ?_
  rintro e w2_ ⟨rfl, hb⟩
  have HB0 : Aside0 (w.heap.size ≤ w1_.heap.size) := ⟨HB.out.size⟩
  have HZ2 : Aside0 (w1_.heap.size ≤ w2_.heap.size) := ⟨hb.size⟩
  have F2__ := Aside0.mk (FullG.below F2_.out hb)
  clear F2_
  have F2_ := F2__
  clear F2__
  have HB_ := Aside0.mk (below_step HB.out hb)
  clear HB hb
  have HB := HB_
  clear HB_
  clear HB0
  go_wp2_with fail
  refine (toIntS_full _ c0 l0 _ (Kd.C_below HR0.out HB.out) HL0.out).mono ?_
  rintro e w3_ ⟨g6_, c7_, rfl, hf, hb⟩
  have HB0 : Aside0 (w.heap.size ≤ w2_.heap.size) := ⟨HB.out.size⟩
  have HZ3 : Aside0 (w2_.heap.size ≤ w3_.heap.size) := ⟨hb.size⟩
  have F2__ := Aside0.mk (FullG.below F2_.out hb)
  clear F2_
  have F2_ := F2__
  clear F2__
  have HB_ := Aside0.mk (below_step HB.out hb)
  clear HB hb
  have HB := HB_
  clear HB_
  have F5_ := Aside0.mk (show FullG w3_ w.heap.size (Btw w2_.heap.size w3_.heap.size) _ _ _ from r_btw hf (by have := HB0.out; exact this))
  clear hf HB0
  go_wp2_with fail
  refine (impl_SumOfTree.calls k2 (some ⟨g6_, 0, none⟩) c7_ l0 r1 r2 _ (FullG.reads F5_.out).2 (FullG.reads F5_.out).1 HI.out).mono ?_
  rintro e w4_ ⟨rfl, hb⟩
  have HB0 : Aside0 (w.heap.size ≤ w3_.heap.size) := ⟨HB.out.size⟩
  have HZ4 : Aside0 (w3_.heap.size ≤ w4_.heap.size) := ⟨hb.size⟩
  have F2__ := Aside0.mk (FullG.below F2_.out hb)
  clear F2_
  have F2_ := F2__
  clear F2__
  have F5__ := Aside0.mk (FullG.below F5_.out hb)
  clear F5_
  have F5_ := F5__
  clear F5__
  have HB_ := Aside0.mk (below_step HB.out hb)
  clear HB hb
  have HB := HB_
  clear HB_
  clear HB0
  go_wp2_with fail
  refine (toIntS_full _ c0 l0 _ (Kd.C_below HR0.out HB.out) HL0.out).mono ?_
  rintro e w5_ ⟨g10_, c11_, rfl, hf, hb⟩
  have HB0 : Aside0 (w.heap.size ≤ w4_.heap.size) := ⟨HB.out.size⟩
  have HZ5 : Aside0 (w4_.heap.size ≤ w5_.heap.size) := ⟨hb.size⟩
  have F2__ := Aside0.mk (FullG.below F2_.out hb)
  clear F2_
  have F2_ := F2__
  clear F2__
  have F5__ := Aside0.mk (FullG.below F5_.out hb)
  clear F5_
  have F5_ := F5__
  clear F5__
  have HB_ := Aside0.mk (below_step HB.out hb)
  clear HB hb
  have HB := HB_
  clear HB_
  have F9_ := Aside0.mk (show FullG w5_ w.heap.size (Btw w4_.heap.size w5_.heap.size) _ _ _ from r_btw hf (by have := HB0.out; exact this))
  clear hf HB0
  go_wp2_with fail
  refine (intactIntS_full _ _ _ _ _ _ _ _ _ _ F5_.out F9_.out HL0.out).mono ?_
  rintro e w6_ ⟨rfl, hd⟩
  have hb := hd.below
  clear hd
  have HZ6 : Aside0 (w5_.heap.size ≤ w6_.heap.size) := ⟨hb.size⟩
  have F2__ := Aside0.mk (FullG.below F2_.out hb)
  clear F2_
  have F2_ := F2__
  clear F2__
  have F5__ := Aside0.mk (FullG.below F5_.out hb)
  clear F5_
  have F5_ := F5__
  clear F5__
  have F9__ := Aside0.mk (FullG.below F9_.out hb)
  clear F9_
  have F9_ := F9__
  clear F9__
  have HB_ := Aside0.mk (below_step HB.out hb)
  clear HB hb
  have HB := HB_
  clear HB_
  go_wp2_with fail
  refine (toIntS_bare _ c0 l0 _ (Kd.C_below HR0.out HB.out) HL0.out).mono ?_
  rintro e w7_ ⟨A16_, c15_, rfl, hf, hb⟩
  have HB0 : Aside0 (w.heap.size ≤ w6_.heap.size) := ⟨HB.out.size⟩
  have HZ7 : Aside0 (w6_.heap.size ≤ w7_.heap.size) := ⟨hb.size⟩
  have F2__ := Aside0.mk (FullG.below F2_.out hb)
  clear F2_
  have F2_ := F2__
  clear F2__
  have F5__ := Aside0.mk (FullG.below F5_.out hb)
  clear F5_
  have F5_ := F5__
  clear F5__
  have F9__ := Aside0.mk (FullG.below F9_.out hb)
  clear F9_
  have F9_ := F9__
  clear F9__
  have HB_ := Aside0.mk (below_step HB.out hb)
  clear HB hb
  have HB := HB_
  clear HB_
  have F13_ := Aside0.mk (r_btw (b0 := w.heap.size) hf (by have := HB0.out; exact this))
  clear hf HB0
  go_wp2_with fail
  refine (impl_SumOfTree.calls k2 A16_ c15_ l0 r1 r2 _ (Kd.R_reads' F13_.out).2.2 (Kd.R_reads' F13_.out).2.1 HI.out).mono ?_
  rintro e w8_ ⟨rfl, hb⟩
  have HB0 : Aside0 (w.heap.size ≤ w7_.heap.size) := ⟨HB.out.size⟩
  have HZ8 : Aside0 (w7_.heap.size ≤ w8_.heap.size) := ⟨hb.size⟩
  have F2__ := Aside0.mk (FullG.below F2_.out hb)
  clear F2_
  have F2_ := F2__
  clear F2__
  have F5__ := Aside0.mk (FullG.below F5_.out hb)
  clear F5_
  have F5_ := F5__
  clear F5__
  have F9__ := Aside0.mk (FullG.below F9_.out hb)
  clear F9_
  have F9_ := F9__
  clear F9__
  have F13__ := Aside0.mk (Kd.R_below F13_.out hb)
  clear F13_
  have F13_ := F13__
  clear F13__
  have HB_ := Aside0.mk (below_step HB.out hb)
  clear HB hb
  have HB := HB_
  clear HB_
  clear HB0
  go_wp2
  go_ret
  exact ⟨rfl, HB.out⟩
set_option maxHeartbeats 4000000 in
set_option maxRecDepth 100000 in
theorem laws_FnExactSumOfTree.walk (P : laws_FnExactSumOfTree.Pure) (a0 : Option Addr) (len0 cap0 : Nat) (z0 : List Int) (w : World) (w0 : (a0 = none ∧ len0 = 0 ∧ cap0 = 0 ∧ z0 = []) ∨ ∃ x, a0 = some x ∧ len0 ≤ cap0 ∧ cap0 ≤ maxLen ∧ z0.length = cap0 ∧ (∀ i, i < z0.length → w.cell? (x.add i) = some (.int .i64 (z0.getD i 0))) ∧ ∀ n ∈ z0, (Lit.int .i64 n).wf = true) (y0 : len0 * 8 ≤ 140737488351232) :
    Calls Try.prog 6 #[.slice a0 len0 cap0] w fun e w' => e = .returned (.bool true) ∧ Below w.heap.size w w' := by
  obtain ⟨l0, rfl, hr0, hm0, hw0, hc0⟩ := ReadsInt.ofRowC w0
  by_cases hl : l0.length ≤ 1000000
  · obtain ⟨k1, k2, r1, r2, hs, hi⟩ := P l0 hw0 hl
    exact laws_FnExactSumOfTree.alike k1 k2 _ _ l0 r1 r2 w (Kd.C_of_reads (d := (0 : Int)) (h1 := fun _ => rfl) hr0) hc0 hl hs hi
  · clear hr0 hc0
    go_enter Try.func6, Try.ntmps6
    go_wp2
    go_ret
    exact ⟨rfl, Below.refl _ _⟩


end Go.Proofs.Ytmclbiollhdbjaa.PrintZ
