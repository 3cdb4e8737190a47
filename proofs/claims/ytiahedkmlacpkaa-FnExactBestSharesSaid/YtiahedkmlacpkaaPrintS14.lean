-- written by this session's own driver (wip/gen.py) with the kit's print and contracts of our own
import Derived.Test.YtiahedkmlacpkaaPrintS0
import Derived.Test.YtiahedkmlacpkaaPrintS1
import Derived.BigRegion
namespace Go.Proofs.Ytiahedkmlacpkaa.PrintS
open Go.RowKit Go.Proofs.YtiahedkmlacpkaaLib Go.Proofs.YtiahedkmlacpkaaW.PrintWords Go.Proofs.YtiahedkmlacpkaaW.PrintLast Go.Proofs.YtiahedkmlacpkaaW.PrintMore
attribute [local go_sem] max2_int min2_int max_two min_two max_three min_three max_four min_four   -- for this text's walks alone
set_option linter.unusedVariables false
set_option linter.unusedSimpArgs false

/-! ### impl_newReaches: function 42, a contract of our own -/
-- IMPORT Derived.BigRegion
theorem zeroReaches : Try.zeroCells71 = arrV 11011 (fun _ => 0) := by
  apply Array.ext'
  rw [chkZ_is Try.zeroCells71.toList 11011 (by kernel_rfl)]
  simp [arrV]
set_option maxHeartbeats 4000000 in
set_option maxRecDepth 100000 in
theorem newReaches_calls (w : World) : Calls Try.prog 42 #[] w fun e w' => ∃ g, e = .returned (.pointer (some ⟨g, 0, none⟩)) ∧ IsReaches w' g ∧ w.heap.size ≤ g ∧ Below w.heap.size w w' := by
  have HA0 := Aside0.mk (show ArrI (w.alloc (.cells Try.zeroCells71 71 (0, 0))) w.heap.size 71 11011 (reachArr (1 * 11 + 1)) from
    ArrI.congr (f := fun _ => 0) ⟨by rw [zeroReaches]; exact blk_new w _⟩ (fun i _ => (reachArr_start i).symm))
  have HB0 := Aside0.mk (below_alloc (Below.refl w.heap.size w) (.cells Try.zeroCells71 71 (0, 0)))
  go_enter Try.func42, Try.ntmps42
  go_wp2
  generalize hg : w.heap.size = g at HA0 ⊢
  have HG := Aside0.mk hg
  clear hg
  go_loopg [2] 1001 (fun gg v2 wr => ∃ t : Nat, 1 ≤ t ∧ t ≤ 1001 ∧ 1001 - t ≤ gg ∧ v2 = .int .i64 t ∧ Aside0 (ArrI wr g 71 11011 (reachArr (t * 11 + 1))) ∧ Aside0 (Below w.heap.size w wr))
  case atStart => exact ⟨1, by omega, by omega, by omega, rfl, HA0, HB0⟩
  case round =>
    clear HA0 HB0
    obtain ⟨t, ht1, ht2, hgg, rfl, HA, HB⟩ := hrel
    by_cases hlt : t ≤ 1000
    · have hltz : (t : Int) ≤ 1000 := by omega
      go_wp2
      go_loopg [3] 11 (fun gg v3 wr => ∃ e : Nat, 1 ≤ e ∧ e ≤ 11 ∧ 11 - e ≤ gg ∧ v3 = .int .i64 e ∧ Aside0 (ArrI wr g 71 11011 (reachArr (t * 11 + e))) ∧ Aside0 (Below w.heap.size w wr))
      case atStart => exact ⟨1, by omega, by omega, by omega, rfl, HA, HB⟩
      case round =>
        clear HA HB
        obtain ⟨e, he1, he2, hg2, rfl, HA, HB⟩ := hrel
        by_cases hle : e ≤ 10
        · have hlez : (e : Int) ≤ 10 := by omega
          obtain ⟨s, rfl⟩ : ∃ s, t = s + 1 := ⟨t - 1, by omega⟩
          obtain ⟨q, rfl⟩ : ∃ q, e = q + 1 := ⟨e - 1, by omega⟩
          have hv1 : reachArr ((s + 1) * 11 + (q + 1)) (s * 11 + q) = rch s q := by unfold reachArr; rw [if_pos (by omega), show (s * 11 + q) / 11 = s by omega, show (s * 11 + q) % 11 = q by omega]
          have hv2 : reachArr ((s + 1) * 11 + (q + 1)) (s * 11 + (q + 1)) = rch s (q + 1) := by unfold reachArr; rw [if_pos (by omega), show (s * 11 + (q + 1)) / 11 = s by omega, show (s * 11 + (q + 1)) % 11 = q + 1 by omega]
          have hx1 := HA.out.cell (s * 11 + q) (by omega)
          have hx2 := HA.out.cell (s * 11 + (q + 1)) (by omega)
          have hx3 := HA.out.cell ((s + 1) * 11 + (q + 1)) (by omega)
          have hf3 := HA.out.frozen ((s + 1) * 11 + (q + 1))
          rw [hv1] at hx1
          rw [hv2] at hx2
          have hr1 := rch_range s q
          have hr2 := rch_range s (q + 1)
          clear hv1 hv2
          generalize reachArr ((s + 1) * 11 + (q + 1)) ((s + 1) * 11 + (q + 1)) = z at hx3
          have hset := Aside0.mk ((HA.out.set ((s + 1) * 11 + (q + 1)) (min 1000000001 (rch s q + rch s (q + 1) + 1))).congr (fun i _ => reachArr_set (s + 1) (q + 1) i (by omega) (by omega) (by omega)))
          clear HA
          rcases (by omega : rch s q + rch s (q + 1) + 1 < 1000000001 ∨ 1000000001 ≤ rch s q + rch s (q + 1) + 1) with hm | hm
          case' inl => rw [show min 1000000001 (rch s q + rch s (q + 1) + 1) = rch s q + rch s (q + 1) + 1 by omega] at hset
          case' inr => rw [show min 1000000001 (rch s q + rch s (q + 1) + 1) = 1000000001 by omega] at hset
          all_goals
            go_wp2
            go_region
            go_wp2
            go_roundg (11 - (q + 1 + 1))
            case measure => omega
            case rel => exact ⟨q + 1 + 1, by omega, by omega, by omega, by go_num, ⟨ArrI.below hset.out (below_drew1 (Below.refl _ _))⟩, ⟨below_drew1 (below_set HB.out (by rw [HG.out]; exact Nat.le_refl _))⟩⟩
        · have hlez : ¬ (e : Int) ≤ 10 := by omega
          obtain rfl : e = 11 := by omega
          go_wp2
          go_roundg (1001 - (t + 1))
          case measure => omega
          case rel =>
            exact ⟨t + 1, by omega, by omega, by omega, by go_num, ⟨HA.out.congr (fun i _ => reachArr_row t i)⟩, HB⟩
    · have hltz : ¬ (t : Int) ≤ 1000 := by omega
      obtain rfl : t = 1001 := by omega
      go_wp2
      go_ret
      exact ⟨g, rfl, HA.out.congr (fun i hi => by unfold reachArr; rw [if_pos (by omega), if_pos hi]), by rw [HG.out]; exact Nat.le_refl _, HB.out⟩

/-! ### slices_Clone_int_int: function 95, a contract of our own -/
def slices_Clone_int_int.f (l0 : List Int) : Option (List Int) := if l0.length ≤ 1000000000 then some l0 else none
set_option maxHeartbeats 8000000 in
set_option maxRecDepth 100000 in
theorem slices_Clone_int_int.calls (A0 : Option Addr) (c0 : Nat) (l0 : List Int) (r : List Int) (w : World) (hr0 : Kd.C (Kd.int .i64) w A0 l0.length l0) (hc0 : l0.length ≤ c0) (h : slices_Clone_int_int.f l0 = some r) :
    Calls Try.prog 95 #[.slice A0 l0.length c0] w fun e w' => ∃ v0_ : Value, e = .returned (v0_) ∧ Kd.R (Kd.int .i64) 3 w' w.heap.size (fun _ => True) v0_ r ∧ Below w.heap.size w w' := by
  unfold slices_Clone_int_int.f at h
  by_cases hl : l0.length ≤ 1000000000
  · rw [if_pos hl] at h
    obtain rfl := Option.some.inj h
    clear h
    have HAL := Aside0.mk (show ([] : List Int).length + l0.length < 17592186044416 by simp; omega)
    have HR0 := Aside0.mk hr0
    have HB := Aside0.mk (Below.refl w.heap.size w)
    cases A0 with
    | none =>
      have h0 : l0 = [] := by
        apply List.length_eq_zero_iff.1
        apply Nat.eq_zero_of_not_pos
        intro hp
        obtain ⟨ad, e, _⟩ := Kd.at_int hr0 0 (by omega) (by omega)
        cases e
      subst h0
      have hnil := fun (W : World) => Lib.run_eql_slice_nil (P := Try.prog) W 30 3 none 0 c0 0 0 Try.underlying30
      clear hr0 hc0 hl HR0 HAL
      go_enter Try.func95, Try.ntmps95
      go_wp2
      go_ret
      exact ⟨.slice none 0 0, rfl, Kd.R_nil _ _ _ _ _, Below.refl _ _⟩
    | some ad =>
      have hnil := fun (W : World) => Lib.run_eql_slice_nil (P := Try.prog) W 30 3 (some ad) l0.length c0 0 0 Try.underlying30
      clear hr0 hc0 hl
      go_enter Try.func95, Try.ntmps95
      go_wp2_with (first | ((with_reducible refine gate_dst (N := 5) rfl ?_); refine Kd.R_lit (Kd.int .i64) _ 3 ?hg (N := 5) ?hd (xs := ([] : List Int)) (inner := []) (ok := fun _ => True) (okp := fun _ => True) ?hr ?hp (fun _ hk => hk) trivial (Below.refl _ _) (Nat.le_refl _) (by simp) ?_; (case hd => rfl); (case hg => rfl); (case hr => first | (go_simp; done) | (go_simp; rfl)); (case hp => exact (Reps.none _ _)); intro V5 W5 ho4 hb hg_ hnew_; clear hg_ hnew_; have HO5 := Aside0.mk (Kd.R_lower ho4 (below_size (by repeat (first | (with_reducible first | exact HB.out | apply below_alloc | apply pw_below_drewN | apply below_drew1) | exact HB.out)))); have HB_ := Aside0.mk (below_step (by repeat (first | (with_reducible first | exact HB.out | apply below_alloc | apply pw_below_drewN | apply below_drew1) | exact HB.out)) hb); clear HB hb ho4; have HB := HB_; clear HB_) | ((with_reducible refine gate_builtin (b := .append) (xs := #[.tmp 5, .tmp 6]) rfl ?_); at_builtin; refine Kd.R_append_rows (Kd.int .i64) (w0 := w) w.heap.size rfl (.tmp 5) (.tmp 6) 30 3 (.int .i64 0) 8 rfl Try.underlying30 info3 rfl (by decide) (by omega) V5 ([]) (l0) _ _ _ (fun _ => True) (fun _ => False) rfl rfl ?aO ?aR (fun _ _ h => h) (fun _ h => h.elim) ?aF ?aB ?aS ?aL ?_; (case aR => repeat (first | exact HR0.out | exact (Kd.C_below HR0.out HB.out) | (with_reducible refine Kd.C_alloc ?_ _) | (with_reducible refine Kd.C_drewN ?_ _) | (with_reducible refine Kd.C_drew ?_))); (case aB => exact (by repeat (first | (with_reducible first | exact HB.out | apply below_alloc | apply pw_below_drewN | apply below_drew1) | exact HB.out))); (case aF => exact (fun _ _ => trivial)); (case aO => exact (by (with_reducible repeat (first | apply Kd.R_alloc | apply Kd.R_drewN | apply Kd.R_drew)); exact HO5.out)); (case aS => exact (below_size (by repeat (first | (with_reducible first | exact HB.out | apply below_alloc | apply pw_below_drewN | apply below_drew1) | exact HB.out)))); (case aL => have := HAL.out; omega); intro va_ wa_ ho hb hg hat; have HA_ := Aside0.mk ho; have HB_ := Aside0.mk hb; clear HB HO5 ho hb hg hat; have HB := HB_; clear HB_))
      go_ret
      exact ⟨_, rfl, by have := HA_.out; rw [List.nil_append] at this; exact this, HB.out⟩
  · rw [if_neg hl] at h
    exact absurd h (by simp)


end Go.Proofs.Ytiahedkmlacpkaa.PrintS
