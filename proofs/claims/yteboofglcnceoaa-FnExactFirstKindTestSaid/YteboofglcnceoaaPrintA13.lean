-- written by this session's own driver (wip/gen.py) with the kit's print and contracts of our own
import Derived.Test.YteboofglcnceoaaPrintA0
import Derived.Test.YteboofglcnceoaaPrintA1
import Derived.Test.YteboofglcnceoaaPrintA4
import Derived.Test.YteboofglcnceoaaPrintA5
import Derived.Test.YteboofglcnceoaaPrintA12
namespace Go.Proofs.Yteboofglcnceoaa.PrintA
open Go.RowKit Go.Proofs.YteboofglcnceoaaLib Go.Proofs.YteboofglcnceoaaW.PrintWords Go.Proofs.YteboofglcnceoaaW.PrintLast Go.Proofs.YteboofglcnceoaaW.PrintMore
attribute [local go_sem] max2_int min2_int max_two min_two max_three min_three max_four min_four   -- for this text's walks alone
set_option linter.unusedVariables false
set_option linter.unusedSimpArgs false

/-! ### spec_kiTable: function 14, a contract of our own -/
-- LIB Kinds
theorem rep_set (n i : Nat) (hi : i < n) : (List.replicate i (-1) ++ List.replicate (n - i) 0 : List Int).set i (-1) = List.replicate (i + 1) (-1) ++ List.replicate (n - (i + 1)) 0 := by
  rw [List.set_append_right _ _ (by rw [List.length_replicate]; exact Nat.le_refl _), List.length_replicate, Nat.sub_self, show n - i = (n - (i + 1)) + 1 by omega, List.replicate_succ, List.set_cons_zero, List.replicate_succ', List.append_assoc]
  rfl
set_option maxHeartbeats 8000000 in
set_option maxRecDepth 100000 in
theorem kiTable_calls (w : World) : Calls Try.prog 14 #[] w fun e w' => ∃ g c, e = .returned (.slice (some ⟨g, 0, none⟩) 38416 c) ∧ Kd.R (Kd.int .i64) 3 w' w.heap.size (fun _ => True) (.slice (some ⟨g, 0, none⟩) 38416 c) kTab0 ∧ Below w.heap.size w w' := by
  have HB := Aside0.mk (Below.refl w.heap.size w)
  obtain ⟨y, hy⟩ : ∃ y : List Int, y = List.replicate (38416 : Int).toNat 0 := ⟨_, rfl⟩
  have Hy := Aside0.mk hy
  obtain ⟨n, hn⟩ : ∃ n, y.length = n := ⟨_, rfl⟩
  have hnn : n = 38416 := by rw [← hn, hy, List.length_replicate]; rfl
  have HN := Aside0.mk hn
  have hn1 : 0 < n := by omega
  have hn2 : n ≤ 38416 := by omega
  have HNN := Aside0.mk hnn
  have HY0 : Aside0 (y = List.replicate 0 (-1) ++ List.replicate (n - 0) 0) := ⟨by rw [hy, hnn]; rfl⟩
  have HRS := Aside0.mk (rep_set n)
  have HLEN : Aside0 (∀ i, i ≤ n → (List.replicate i (-1) ++ List.replicate (n - i) 0 : List Int).length = n) := ⟨fun i hi => by rw [List.length_append, List.length_replicate, List.length_replicate]; omega⟩
  clear hy hn hnn
  go_enter Try.func14, Try.ntmps14
  go_wp2_with ((with_reducible refine gate_dst (N := 16) rfl ?_); refine Kd.R_make (Kd.int .i64) _ 3 rfl (N := 16) rfl 28 _ _ rfl 38416 rfl rfl Try.underlying28 (.int .i64 0) 8 info3 rfl (by decide) (by omega) 0 (ok := fun _ => True) (okp := fun _ => True) rfl (fun _ hk => hk) trivial (by decide) (by decide) (Below.refl _ _) (Nat.le_refl _) ?_; intro v_ w4 ho5 hb hg_ hnew_; clear hg_ hnew_; rw [← Hy.out] at ho5; have n0_ := Aside0.mk (Kd.R_lower ho5 (below_size HB.out)); have n1_ := Aside0.mk (below_step HB.out hb); clear HB hb ho5; have HO := n0_; have HB := n1_; clear n0_ n1_; obtain ⟨A_, c_, eo_⟩ := Kd.R_slice HO.out; rw [HN.out] at eo_; subst eo_)
  have hform := Kd.R_form HO.out (by rw [HN.out]; exact hn1)
  obtain ⟨g, c, hv, hg0, _⟩ := hform
  rw [HN.out] at hv
  obtain ⟨rfl, _, rfl⟩ := Value.slice.inj hv
  have HG := Aside0.mk hg0
  clear hv hg0
  go_loopg [4, 19] n (fun gg _ v19 wr => ∃ (i : Nat) (L : List Int), v19 = .int .i64 i ∧ i ≤ n ∧ n - i ≤ gg ∧ Aside0 (L = List.replicate i (-1) ++ List.replicate (n - i) 0) ∧ Aside0 (Kd.R (Kd.int .i64) 3 wr w.heap.size (fun _ => True) (.slice (some ⟨g, 0, none⟩) n c_) L) ∧ Aside0 (Below w.heap.size w wr))
  case atStart => exact ⟨0, y, rfl, Nat.zero_le _, Nat.le_refl _, HY0, HO, HB⟩
  case round =>
    clear HO HB
    obtain ⟨i, L, rfl, hi, hgg, HL, HO, HB⟩ := hrel
    by_cases hlt : i < n
    · have hltz : (i : Int) < (n : Int) := by omega
      obtain ⟨hx0, hf0⟩ := Kd.R_celln 0 HO.out (i : Int) (by omega) (by omega)
      have HP := Aside0.mk (Kd.R_putg HO.out (i : Int) (-1))
      rw [Int.toNat_natCast] at hx0 hf0 HP
      obtain ⟨L2, hL2⟩ : ∃ L2, L2 = L.set i (-1) := ⟨_, rfl⟩
      have HL2 : Aside0 (L2 = List.replicate (i + 1) (-1) ++ List.replicate (n - (i + 1)) 0) := ⟨by rw [hL2, HL.out, HRS.out i hlt]⟩
      rw [← hL2] at HP
      clear hL2 HL
      go_wp2
      go_roundg (n - (i + 1))
      case measure => omega
      case rel => exact ⟨i + 1, L2, by go_num, by omega, by omega, HL2, ⟨HP.out.1⟩, ⟨below_set HB.out HG.out⟩⟩
    · have hltz : ¬ (i : Int) < (n : Int) := by omega
      obtain rfl : i = n := by omega
      have hnn := HNN.out
      have hL : L = kTab0 := by rw [HL.out, hnn, Nat.sub_self, List.replicate_zero, List.append_nil]; rfl
      clear HL HLEN HRS HY0
      go_wp2
      go_ret
      subst hnn
      exact ⟨_, _, rfl, by rw [← hL]; exact HO.out, HB.out⟩

/-! ### spec_kiStart: function 15 -/
def spec_kiStart.f (a0 : Int) (a1 : Int) (a2 : Int) : Option (Int × Int × Int × Int × Int × Int) := some (0, a2, 0, a2, a0, a1)
set_option maxHeartbeats 8000000 in
set_option maxRecDepth 100000 in
theorem spec_kiStart.calls (a0 : Int) (a1 : Int) (a2 : Int) (r1 : Int) (r2 : Int) (r3 : Int) (r4 : Int) (r5 : Int) (r6 : Int) (w : World) (h : spec_kiStart.f a0 a1 a2 = some (r1, r2, r3, r4, r5, r6)) :
    Calls Try.prog 15 #[.int .i64 a0, .int .i64 a1, .int .i64 a2] w fun e w' => e = .returned (.agg #[.int .i64 r1, .int .i64 r2, .int .i64 r3, .int .i64 r4, .int .i64 r5, .int .i64 r6]) ∧ Below w.heap.size w w' := by
  have hu31 := Try.underlying31
  have HB := Aside0.mk (Below.refl w.heap.size w)
  have H : (some (0, a2, 0, a2, a0, a1)) = some (r1, r2, r3, r4, r5, r6) := h
  clear h
  simp only [Option.some.injEq, Prod.mk.injEq] at H
  obtain ⟨rfl, rfl, rfl, rfl, rfl, rfl⟩ := H
  go_enter Try.func15, Try.ntmps15
  go_wp2_with (first | ((with_reducible refine gate_dst (N := 6) rfl ?_); refine box_event ?hg (N := 6) ?hd (cs := #[.int .i64 0, .int .i64 0, .int .i64 0, .int .i64 0, .int .i64 0, .int .i64 0]) (t := 31) ?hr ?_; (case hd => rfl); (case hg => rfl); (case hr => first | (go_simp; done) | (go_simp; rfl)); intro gb149 hg w4 hbox hb; have n0_ := Aside0.mk (below_step (by repeat (first | (with_reducible first | exact HB.out | apply below_alloc | apply pw_below_drewN | apply below_drew1) | exact HB.out)) hb); have n1_ := Aside0.mk (hbox); have n2_ := Aside0.mk ((by rw [hg]; exact (below_size (by repeat (first | (with_reducible first | exact HB.out | apply below_alloc | apply pw_below_drewN | apply below_drew1) | exact HB.out))) : w.heap.size ≤ gb149)); have n3_ := Aside0.mk ((by rw [hg]; exact (below_size (by repeat (first | (with_reducible first | exact HB.out | apply below_alloc | apply pw_below_drewN | apply below_drew1) | exact HB.out))) : w.heap.size ≤ gb149)); clear HB; have HB := n0_; have BK149 := n1_; have GW149 := n2_; have GE149 := n3_; clear n0_ n1_ n2_ n3_; clear hb hbox hg; have hcz5_0 : w4.cell? ⟨gb149, 0, none⟩ = some (.int .i64 0) := (blk_cell BK149.out 0).trans rfl; have hcz5_1 : w4.cell? ⟨gb149, 1, none⟩ = some (.int .i64 0) := (blk_cell BK149.out 1).trans rfl; have hcz5_2 : w4.cell? ⟨gb149, 2, none⟩ = some (.int .i64 0) := (blk_cell BK149.out 2).trans rfl; have hcz5_3 : w4.cell? ⟨gb149, 3, none⟩ = some (.int .i64 0) := (blk_cell BK149.out 3).trans rfl; have hcz5_4 : w4.cell? ⟨gb149, 4, none⟩ = some (.int .i64 0) := (blk_cell BK149.out 4).trans rfl; have hcz5_5 : w4.cell? ⟨gb149, 5, none⟩ = some (.int .i64 0) := (blk_cell BK149.out 5).trans rfl; have hfz5_0 := blk_frozen BK149.out 0; have hfz5_1 := blk_frozen BK149.out 1; have hfz5_2 := blk_frozen BK149.out 2; have hfz5_3 := blk_frozen BK149.out 3; have hfz5_4 := blk_frozen BK149.out 4; have hfz5_5 := blk_frozen BK149.out 5))
  refine bodyPost_ret (results_cell_row rfl _ _ gb149 31 #[.int .i64 0, .int .i64 a2, .int .i64 0, .int .i64 a2, .int .i64 a0, .int .i64 a1] (0, 0) _ rfl (by (with_reducible repeat (first | refine blk_drewN ?_ _ | refine blk_drew ?_ | refine blk_alloc ?_ _)); refine blk_put (cs := #[.int .i64 0, .int .i64 a2, .int .i64 0, .int .i64 a2, .int .i64 a0, .int .i64 0]) ?_ 5 _ rfl; (with_reducible repeat (first | refine blk_drewN ?_ _ | refine blk_drew ?_ | refine blk_alloc ?_ _)); refine blk_put (cs := #[.int .i64 0, .int .i64 a2, .int .i64 0, .int .i64 a2, .int .i64 0, .int .i64 0]) ?_ 4 _ rfl; (with_reducible repeat (first | refine blk_drewN ?_ _ | refine blk_drew ?_ | refine blk_alloc ?_ _)); refine blk_put (cs := #[.int .i64 0, .int .i64 a2, .int .i64 0, .int .i64 0, .int .i64 0, .int .i64 0]) ?_ 3 _ rfl; (with_reducible repeat (first | refine blk_drewN ?_ _ | refine blk_drew ?_ | refine blk_alloc ?_ _)); refine blk_put (cs := #[.int .i64 0, .int .i64 a2, .int .i64 0, .int .i64 0, .int .i64 0, .int .i64 0]) ?_ 2 _ rfl; (with_reducible repeat (first | refine blk_drewN ?_ _ | refine blk_drew ?_ | refine blk_alloc ?_ _)); refine blk_put (cs := #[.int .i64 0, .int .i64 0, .int .i64 0, .int .i64 0, .int .i64 0, .int .i64 0]) ?_ 1 _ rfl; (with_reducible repeat (first | refine blk_drewN ?_ _ | refine blk_drew ?_ | refine blk_alloc ?_ _)); refine blk_put (cs := #[.int .i64 0, .int .i64 0, .int .i64 0, .int .i64 0, .int .i64 0, .int .i64 0]) ?_ 0 _ rfl; (with_reducible repeat (first | refine blk_drewN ?_ _ | refine blk_drew ?_ | refine blk_alloc ?_ _)); exact BK149.out) Try.underlying31 rfl (by kernel_rfl)) rfl ?_
  exact ⟨by first | rfl | (simp [errW_none, errW_some] <;> rfl) | (simp [*, errW_none, errW_some] <;> rfl), by repeat (first | (with_reducible first | exact HB.out | apply below_alloc | apply pw_below_drewN | apply below_drew1 | refine below_set ?_ GE149.out) | exact HB.out)⟩

/-! ### spec_FewestKinds: function 8, a contract of our own -/
def spec_FewestKinds.f (a0 a1 a2 : Int) : Option (Int × Bool) := some (if kAsk a0 a1 a2 = true then kVal false (kStart a0 a1 a2) else 0, kAsk a0 a1 a2)
set_option maxHeartbeats 8000000 in
set_option maxRecDepth 100000 in
theorem spec_FewestKinds.calls (a0 a1 a2 : Int) (r1 : Int) (r2 : Bool) (w : World) (h : spec_FewestKinds.f a0 a1 a2 = some (r1, r2)) :
    Calls Try.prog 8 #[.int .i64 a0, .int .i64 a1, .int .i64 a2] w fun e w' => e = .returned (.tuple #[.int .i64 r1, .bool r2]) ∧ Below w.heap.size w w' := by
  have HB := Aside0.mk (Below.refl w.heap.size w)
  unfold spec_FewestKinds.f at h
  obtain ⟨hq1, hq2⟩ := Prod.mk.inj (Option.some.inj h)
  have HG := Aside0.mk (fun (W : World) => spec_kiAsked.calls0 a0 a1 a2 (kAsk a0 a1 a2) W (kiAsked_is a0 a1 a2))
  subst hq2
  clear h
  cases hgd : kAsk a0 a1 a2 with
  | true =>
    rw [hgd] at HG
    rw [if_pos hgd] at hq1
    have hok := kStart_ok hgd
    have hval := (kStart_val false hgd).2
    have HF : Aside0 (∀ (g c : Nat) (W : World), Below w.heap.size w W → Kd.R (Kd.int .i64) 3 W w.heap.size (fun _ => True) (.slice (some ⟨g, 0, none⟩) 38416 c) kTab0 → Calls Try.prog 13 #[.slice (some ⟨g, 0, none⟩) 38416 c, .agg #[.int .i64 0, .int .i64 a2, .int .i64 0, .int .i64 a2, .int .i64 a0, .int .i64 a1], .bool true] W fun e' w' => e' = .returned (.int .i64 r1) ∧ Below w.heap.size w w') := ⟨fun g c W hb hr => by
      have := FewC_all false 13 38416 (kStart a0 a1 a2) g c kTab0 w W rfl hok (by have := kMu_le hok; omega) (KTab.start _) hb (r_int_ok hr (fun k hk => by rw [slice_ownB] at hk; injection hk with hk; exact hk.symm))
      refine this.mono ?_
      rintro e_ w_ ⟨t', rfl, _, _, h3, _⟩
      exact ⟨by rw [hval, hq1], h3⟩⟩
    have HST := Aside0.mk (fun (W : World) => spec_kiStart.calls a0 a1 a2 _ _ _ _ _ _ W rfl)
    clear hgd hq1 hok hval
    go_enter Try.func8, Try.ntmps8
    go_wp2_with (first
      | (go_at_call 12; with_reducible refine (HG.out _).mono ?_; rintro e_ w_ ⟨rfl, rfl⟩)
      | (go_at_call 14; with_reducible refine (kiTable_calls _).mono ?_; rintro e_ w2 ⟨g, c, rfl, hr, hb⟩; have HR := Aside0.mk (Kd.R_lower hr (below_size HB.out)); have n0_ := Aside0.mk (below_step HB.out hb); clear HB hb hr; have HB := n0_; clear n0_)
      | (go_at_call 15; with_reducible refine (HST.out _).mono ?_; rintro e_ w3 ⟨rfl, hb⟩; have n0_ := Aside0.mk (below_step HB.out hb); have n1_ := Aside0.mk (Kd.R_below HR.out hb); clear HB HR hb; have HB := n0_; have HR := n1_; clear n0_ n1_)
      | (go_at_call 13; with_reducible refine (HF.out _ _ _ HB.out HR.out).mono ?_; rintro e_ w4 ⟨rfl, hb⟩; have n0_ := Aside0.mk hb; clear HB hb; have HB := n0_; clear n0_))
    go_ret2
    exact ⟨rfl, HB.out⟩
  | false =>
    rw [hgd] at HG
    rw [if_neg (by rw [hgd]; decide)] at hq1
    subst hq1
    clear hgd
    go_enter Try.func8, Try.ntmps8
    go_wp2_with (go_at_call 12; with_reducible refine (HG.out _).mono ?_; rintro e_ w_ ⟨rfl, rfl⟩)
    go_ret2
    exact ⟨rfl, HB.out⟩

end Go.Proofs.Yteboofglcnceoaa.PrintA
