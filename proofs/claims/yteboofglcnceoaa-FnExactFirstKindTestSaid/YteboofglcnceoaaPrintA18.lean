-- written by this session's own driver (wip/gen.py) with the kit's print and contracts of our own
import Derived.Test.YteboofglcnceoaaPrintA0
import Derived.Test.YteboofglcnceoaaPrintA17
namespace Go.Proofs.Yteboofglcnceoaa.PrintA
open Go.RowKit Go.Proofs.YteboofglcnceoaaLib Go.Proofs.YteboofglcnceoaaW.PrintWords Go.Proofs.YteboofglcnceoaaW.PrintLast Go.Proofs.YteboofglcnceoaaW.PrintMore
attribute [local go_sem] max2_int min2_int max_two min_two max_three min_three max_four min_four   -- for this text's walks alone
set_option linter.unusedVariables false
set_option linter.unusedSimpArgs false

/-! behind impl_knowledge_tests -/
-- LIB Kinds
/-- A test that did not break. -/
def kTs (l : List (Bool × Int)) : List S42 := l.map (fun t => ⟨t.1, t.2, false⟩)
theorem kTs_len (l : List (Bool × Int)) : (kTs l).length = l.length := by simp [kTs]
theorem kTs_append (x y : List (Bool × Int)) : kTs (x ++ y) = kTs x ++ kTs y := by simp [kTs]
theorem tests_l1 (a b c d we se : Int) (n : Nat) (hn : n = if se > 0 then (d - c).toNat else 0) (hc : 0 ≤ c) (hd : d ≤ 6) (hcd : c ≤ d) (pre : List (Bool × Int)) (hp : pre.length ≤ 100) : ∀ (r kk i : Nat), n - i = r → i ≤ n → r < kk →
    impl_knowledge_tests.l1 kk (kTs (pre ++ kRow true c i)) (c + 1 + (i : Int)) a b c d we se = some (kTs (pre ++ kRow true c n))
  | 0, kk, i, hr, hi, hk => by
    obtain ⟨kk, rfl⟩ : ∃ m, kk = m + 1 := ⟨kk - 1, by omega⟩
    obtain rfl : i = n := by omega
    rw [impl_knowledge_tests.l1]
    by_cases hs : se > 0
    · rw [if_pos hs] at hn
      rw [if_neg (by omega)]
    · rw [if_neg hs]
      split <;> rfl
  | r + 1, kk, i, hr, hi, hk => by
    obtain ⟨kk, rfl⟩ : ∃ m, kk = m + 1 := ⟨kk - 1, by omega⟩
    have hs : se > 0 := by
      apply Classical.byContradiction
      intro h
      rw [if_neg h] at hn
      omega
    rw [if_pos hs] at hn
    have e : wrap64 (c + 1 + (i : Int) + 1) = c + 1 + ((i + 1 : Nat) : Int) := by unfold wrap64; omega
    have hx : kTs (pre ++ kRow true c i) ++ [(⟨true, c + 1 + (i : Int), false⟩ : S42)] = kTs (pre ++ kRow true c (i + 1)) := by
      rw [kRow_succ, ← List.append_assoc, kTs_append (pre ++ kRow true c i)]; rfl
    have hl : (kTs (pre ++ kRow true c i)).length < 5864062014805 := by rw [kTs_len, List.length_append, kRow_len]; clear e; omega
    rw [impl_knowledge_tests.l1, if_pos (by clear e; omega), if_pos hs, if_pos hl, hx, e]
    exact tests_l1 a b c d we se n (by rw [if_pos hs]; exact hn) hc hd hcd pre hp r kk (i + 1) (by clear e; omega) (by clear e; omega) (by clear e; omega)
theorem tests_l0 (a b c d we se : Int) (n m : Nat) (hn : n = if we > 0 then (b - a).toNat else 0) (hm : m = if se > 0 then (d - c).toNat else 0) (ha : 0 ≤ a) (hb : b ≤ 6) (hab : a ≤ b) (hc : 0 ≤ c) (hd : d ≤ 6) (hcd : c ≤ d) : ∀ (r kk i : Nat), n - i = r → i ≤ n → r + 100 < kk →
    impl_knowledge_tests.l0 kk (kTs (kRow false a i)) (a + 1 + (i : Int)) a b c d we se = some (kTs (kRow false a n ++ kRow true c m))
  | 0, kk, i, hr, hi, hk => by
    obtain ⟨kk, rfl⟩ : ∃ q, kk = q + 1 + 1 := ⟨kk - 2, by omega⟩
    obtain rfl : i = n := by omega
    have hmb : m ≤ 6 := by rw [hm]; split <;> omega
    have hib : i ≤ 6 := by rw [hn]; split <;> omega
    have e : wrap64 (c + 1) = c + 1 + ((0 : Nat) : Int) := by unfold wrap64; omega
    have hj : impl_knowledge_tests.j1 (kk + 1) (kTs (kRow false a i)) a b c d we se = some (kTs (kRow false a i ++ kRow true c m)) := by
      rw [impl_knowledge_tests.j1, e]
      have := tests_l1 a b c d we se m hm hc hd hcd (kRow false a i) (by rw [kRow_len]; clear e; omega) m kk 0 (by clear e; omega) (by clear e; omega) (by clear e; omega)
      rw [show kRow true c 0 = [] from rfl, List.append_nil] at this
      exact this
    rw [impl_knowledge_tests.l0, hj]
    clear e hj
    by_cases hs : we > 0
    · rw [if_pos hs] at hn
      rw [if_neg (by omega)]
    · rw [if_neg hs]
      split <;> rfl
  | r + 1, kk, i, hr, hi, hk => by
    obtain ⟨kk, rfl⟩ : ∃ m, kk = m + 1 := ⟨kk - 1, by omega⟩
    have hs : we > 0 := by
      apply Classical.byContradiction
      intro h
      rw [if_neg h] at hn
      omega
    rw [if_pos hs] at hn
    have e : wrap64 (a + 1 + (i : Int) + 1) = a + 1 + ((i + 1 : Nat) : Int) := by unfold wrap64; omega
    have hx : kTs (kRow false a i) ++ [(⟨false, a + 1 + (i : Int), false⟩ : S42)] = kTs (kRow false a (i + 1)) := by
      rw [kRow_succ, kTs_append]; rfl
    have hl : (kTs (kRow false a i)).length < 5864062014805 := by rw [kTs_len, kRow_len]; clear e; omega
    rw [impl_knowledge_tests.l0, if_pos (by clear e; omega), if_pos hs, if_pos hl, hx, e]
    exact tests_l0 a b c d we se n m (by rw [if_pos hs]; exact hn) hm ha hb hab hc hd hcd r kk (i + 1) (by clear e; omega) (by clear e; omega) (by clear e; omega)
theorem tests_is (k : KSt) (hk : KOk k) : impl_knowledge_tests.f 200 k.a k.b k.c k.d k.w k.s = some (kTs (kTests k)) := by
  obtain ⟨h1, h2, h3, h4, h5, h6, h7, h8, h9, h10⟩ := hk
  have hw : kWn k ≤ 6 := by unfold kWn; split <;> omega
  have e : wrap64 (k.a + 1) = k.a + 1 + ((0 : Nat) : Int) := by unfold wrap64; omega
  unfold impl_knowledge_tests.f
  rw [e]
  exact tests_l0 k.a k.b k.c k.d k.w k.s (kWn k) (kSn k) rfl rfl h1 (by clear e; omega) h2 (by clear e; omega) h4 h6 (kWn k) 200 0 (by clear e; omega) (by clear e; omega) (by clear e; omega)

/-! ### impl_knowledge_tight: function 38 -/
def impl_knowledge_tight.f (a0_0 : Int) (a0_1 : Int) (a0_2 : Int) (a0_3 : Int) (a0_4 : Int) (a0_5 : Int) : Option (Int × Int × Int × Int × Int × Int) := some (a0_0, mn a0_1 a0_3, mx a0_2 a0_0, a0_3, a0_4, a0_5)
set_option maxHeartbeats 8000000 in
set_option maxRecDepth 100000 in
theorem impl_knowledge_tight.calls (a0_0 : Int) (a0_1 : Int) (a0_2 : Int) (a0_3 : Int) (a0_4 : Int) (a0_5 : Int) (r1 : Int) (r2 : Int) (r3 : Int) (r4 : Int) (r5 : Int) (r6 : Int) (w : World) (h : impl_knowledge_tight.f a0_0 a0_1 a0_2 a0_3 a0_4 a0_5 = some (r1, r2, r3, r4, r5, r6)) :
    Calls Try.prog 38 #[.agg #[.int .i64 a0_0, .int .i64 a0_1, .int .i64 a0_2, .int .i64 a0_3, .int .i64 a0_4, .int .i64 a0_5]] w fun e w' => e = .returned (.agg #[.int .i64 r1, .int .i64 r2, .int .i64 r3, .int .i64 r4, .int .i64 r5, .int .i64 r6]) ∧ Below w.heap.size w w' := by
  have hu37 := Try.underlying37
  have HB := Aside0.mk (Below.refl w.heap.size w)
  have H : (some (a0_0, mn a0_1 a0_3, mx a0_2 a0_0, a0_3, a0_4, a0_5)) = some (r1, r2, r3, r4, r5, r6) := h
  clear h
  obtain ⟨ji2, hji2⟩ : ∃ j_ : Int, (mx a0_2 a0_0) = j_ := ⟨_, rfl⟩
  replace H : (some (a0_0, mn a0_1 a0_3, ji2, a0_3, a0_4, a0_5)) = some (r1, r2, r3, r4, r5, r6) := by first | (rw [hji2] at H; exact H) | (simp only [hji2] at H ⊢; exact H)
  have hji2_ : (if a0_2 < a0_0 then a0_0 else a0_2) = ji2 := hji2
  obtain ⟨ji3, hji3⟩ : ∃ j_ : Int, (mn a0_1 a0_3) = j_ := ⟨_, rfl⟩
  replace H : (some (a0_0, ji3, ji2, a0_3, a0_4, a0_5)) = some (r1, r2, r3, r4, r5, r6) := by first | (rw [hji3] at H; exact H) | (simp only [hji3] at H ⊢; exact H)
  have hji3_ : (if a0_3 < a0_1 then a0_3 else a0_1) = ji3 := hji3
  simp only [Option.some.injEq, Prod.mk.injEq] at H
  obtain ⟨rfl, rfl, rfl, rfl, rfl, rfl⟩ := H
  go_enter Try.func38, Try.ntmps38
  go_wp2_with (first | ((with_reducible refine gate_dst (N := 1) rfl ?_); refine box_event ?hg (N := 1) ?hd (cs := #[.int .i64 a0_0, .int .i64 a0_1, .int .i64 a0_2, .int .i64 a0_3, .int .i64 a0_4, .int .i64 a0_5]) (t := 37) ?hr ?_; (case hd => rfl); (case hg => rfl); (case hr => first | (go_simp; done) | (go_simp; rfl)); intro gb164 hg w4 hbox hb; have n0_ := Aside0.mk (below_step (by repeat (first | (with_reducible first | exact HB.out | apply below_alloc | apply pw_below_drewN | apply below_drew1) | exact HB.out)) hb); have n1_ := Aside0.mk (hbox); have n2_ := Aside0.mk ((by rw [hg]; exact (below_size (by repeat (first | (with_reducible first | exact HB.out | apply below_alloc | apply pw_below_drewN | apply below_drew1) | exact HB.out))) : w.heap.size ≤ gb164)); have n3_ := Aside0.mk ((by rw [hg]; exact (below_size (by repeat (first | (with_reducible first | exact HB.out | apply below_alloc | apply pw_below_drewN | apply below_drew1) | exact HB.out))) : w.heap.size ≤ gb164)); clear HB; have HB := n0_; have BK164 := n1_; have GW164 := n2_; have GE164 := n3_; clear n0_ n1_ n2_ n3_; clear hb hbox hg) | ((with_reducible refine gate_dst (N := 2) rfl ?_); refine box_event ?hg (N := 2) ?hd (cs := #[.int .i64 0, .int .i64 0, .int .i64 0, .int .i64 0, .int .i64 0, .int .i64 0]) (t := 37) ?hr ?_; (case hd => rfl); (case hg => rfl); (case hr => first | (go_simp; done) | (go_simp; rfl)); intro gb165 hg w5 hbox hb; have n0_ := Aside0.mk (blk_below (g := gb164) (o := .cells #[.int .i64 a0_0, .int .i64 a0_1, .int .i64 a0_2, .int .i64 a0_3, .int .i64 a0_4, .int .i64 a0_5] 37 (0, 0)) (by (with_reducible repeat (first | refine blk_drewN ?_ _ | refine blk_drew ?_ | refine blk_alloc ?_ _)); exact BK164.out) hb); have n1_ := Aside0.mk (below_step (by repeat (first | (with_reducible first | exact HB.out | apply below_alloc | apply pw_below_drewN | apply below_drew1 | refine below_set ?_ GE164.out) | exact HB.out)) hb); have n2_ := Aside0.mk (hbox); have n3_ := Aside0.mk ((by rw [hg]; exact (below_size (by repeat (first | (with_reducible first | exact HB.out | apply below_alloc | apply pw_below_drewN | apply below_drew1 | refine below_set ?_ GE164.out) | exact HB.out))) : w.heap.size ≤ gb165)); have n4_ := Aside0.mk ((by rw [hg]; exact (below_size (by repeat (first | (with_reducible first | exact HB.out | apply below_alloc | apply pw_below_drewN | apply below_drew1 | refine below_set ?_ GE164.out) | exact HB.out))) : w.heap.size ≤ gb165)); have n5_ := Aside0.mk ((by rw [hg]; exact Nat.ne_of_lt (blk_lt (g := gb164) (o := .cells #[.int .i64 a0_0, .int .i64 a0_1, .int .i64 a0_2, .int .i64 a0_3, .int .i64 a0_4, .int .i64 a0_5] 37 (0, 0)) (by (with_reducible repeat (first | refine blk_drewN ?_ _ | refine blk_drew ?_ | refine blk_alloc ?_ _)); exact BK164.out)) : gb164 ≠ gb165)); have n6_ := Aside0.mk ((by rw [hg]; exact Nat.ne_of_gt (blk_lt (g := gb164) (o := .cells #[.int .i64 a0_0, .int .i64 a0_1, .int .i64 a0_2, .int .i64 a0_3, .int .i64 a0_4, .int .i64 a0_5] 37 (0, 0)) (by (with_reducible repeat (first | refine blk_drewN ?_ _ | refine blk_drew ?_ | refine blk_alloc ?_ _)); exact BK164.out)) : gb165 ≠ gb164)); clear BK164; clear HB; have BK164 := n0_; have HB := n1_; have BK165 := n2_; have GW165 := n3_; have GE165 := n4_; have NB164_165 := n5_; have NB165_164 := n6_; clear n0_ n1_ n2_ n3_ n4_ n5_ n6_; clear hb hbox hg; have hnb6 := NB164_165.out; have hnc6 := NB165_164.out; have hcz7_0 : w5.cell? ⟨gb164, 0, none⟩ = some (.int .i64 a0_0) := (blk_cell BK164.out 0).trans rfl; have hcz7_1 : w5.cell? ⟨gb164, 1, none⟩ = some (.int .i64 a0_1) := (blk_cell BK164.out 1).trans rfl; have hcz7_2 : w5.cell? ⟨gb164, 2, none⟩ = some (.int .i64 a0_2) := (blk_cell BK164.out 2).trans rfl; have hcz7_3 : w5.cell? ⟨gb164, 3, none⟩ = some (.int .i64 a0_3) := (blk_cell BK164.out 3).trans rfl; have hcz7_4 : w5.cell? ⟨gb164, 4, none⟩ = some (.int .i64 a0_4) := (blk_cell BK164.out 4).trans rfl; have hcz7_5 : w5.cell? ⟨gb164, 5, none⟩ = some (.int .i64 a0_5) := (blk_cell BK164.out 5).trans rfl; have hfz7_0 := blk_frozen BK164.out 0; have hfz7_1 := blk_frozen BK164.out 1; have hfz7_2 := blk_frozen BK164.out 2; have hfz7_3 := blk_frozen BK164.out 3; have hfz7_4 := blk_frozen BK164.out 4; have hfz7_5 := blk_frozen BK164.out 5; have hcz8_0 : w5.cell? ⟨gb165, 0, none⟩ = some (.int .i64 0) := (blk_cell BK165.out 0).trans rfl; have hcz8_1 : w5.cell? ⟨gb165, 1, none⟩ = some (.int .i64 0) := (blk_cell BK165.out 1).trans rfl; have hcz8_2 : w5.cell? ⟨gb165, 2, none⟩ = some (.int .i64 0) := (blk_cell BK165.out 2).trans rfl; have hcz8_3 : w5.cell? ⟨gb165, 3, none⟩ = some (.int .i64 0) := (blk_cell BK165.out 3).trans rfl; have hcz8_4 : w5.cell? ⟨gb165, 4, none⟩ = some (.int .i64 0) := (blk_cell BK165.out 4).trans rfl; have hcz8_5 : w5.cell? ⟨gb165, 5, none⟩ = some (.int .i64 0) := (blk_cell BK165.out 5).trans rfl; have hfz8_0 := blk_frozen BK165.out 0; have hfz8_1 := blk_frozen BK165.out 1; have hfz8_2 := blk_frozen BK165.out 2; have hfz8_3 := blk_frozen BK165.out 3; have hfz8_4 := blk_frozen BK165.out 4; have hfz8_5 := blk_frozen BK165.out 5))
  refine bodyPost_ret (results_cell_row rfl _ _ gb165 37 #[.int .i64 a0_0, .int .i64 ji3, .int .i64 ji2, .int .i64 a0_3, .int .i64 a0_4, .int .i64 a0_5] (0, 0) _ rfl (by (with_reducible repeat (first | refine blk_drewN ?_ _ | refine blk_drew ?_ | refine blk_alloc ?_ _)); refine blk_put (cs := #[.int .i64 a0_0, .int .i64 ji3, .int .i64 ji2, .int .i64 a0_3, .int .i64 a0_4, .int .i64 0]) ?_ 5 _ rfl; (with_reducible repeat (first | refine blk_drewN ?_ _ | refine blk_drew ?_ | refine blk_alloc ?_ _)); refine blk_put (cs := #[.int .i64 a0_0, .int .i64 ji3, .int .i64 ji2, .int .i64 a0_3, .int .i64 0, .int .i64 0]) ?_ 4 _ rfl; (with_reducible repeat (first | refine blk_drewN ?_ _ | refine blk_drew ?_ | refine blk_alloc ?_ _)); refine blk_put (cs := #[.int .i64 a0_0, .int .i64 ji3, .int .i64 ji2, .int .i64 0, .int .i64 0, .int .i64 0]) ?_ 3 _ rfl; (with_reducible repeat (first | refine blk_drewN ?_ _ | refine blk_drew ?_ | refine blk_alloc ?_ _)); refine blk_put (cs := #[.int .i64 a0_0, .int .i64 ji3, .int .i64 0, .int .i64 0, .int .i64 0, .int .i64 0]) ?_ 2 _ rfl; (with_reducible repeat (first | refine blk_drewN ?_ _ | refine blk_drew ?_ | refine blk_alloc ?_ _)); refine blk_put (cs := #[.int .i64 a0_0, .int .i64 0, .int .i64 0, .int .i64 0, .int .i64 0, .int .i64 0]) ?_ 1 _ rfl; (with_reducible repeat (first | refine blk_drewN ?_ _ | refine blk_drew ?_ | refine blk_alloc ?_ _)); refine blk_put (cs := #[.int .i64 0, .int .i64 0, .int .i64 0, .int .i64 0, .int .i64 0, .int .i64 0]) ?_ 0 _ rfl; (with_reducible repeat (first | refine blk_drewN ?_ _ | refine blk_drew ?_ | refine blk_alloc ?_ _)); refine blk_far ?_ NB165_164.out _; (with_reducible repeat (first | refine blk_drewN ?_ _ | refine blk_drew ?_ | refine blk_alloc ?_ _)); refine blk_far ?_ NB165_164.out _; (with_reducible repeat (first | refine blk_drewN ?_ _ | refine blk_drew ?_ | refine blk_alloc ?_ _)); exact BK165.out) Try.underlying37 rfl (by kernel_rfl)) rfl ?_
  exact ⟨by first | rfl | (simp [errW_none, errW_some] <;> rfl) | (simp only [← hji2, ← hji3]; first | rfl | (simp [errW_none, errW_some] <;> rfl)) | (simp [*, errW_none, errW_some] <;> rfl), by repeat (first | (with_reducible first | exact HB.out | apply below_alloc | apply pw_below_drewN | apply below_drew1 | refine below_set ?_ GE164.out | refine below_set ?_ GE165.out) | exact HB.out)⟩

end Go.Proofs.Yteboofglcnceoaa.PrintA
