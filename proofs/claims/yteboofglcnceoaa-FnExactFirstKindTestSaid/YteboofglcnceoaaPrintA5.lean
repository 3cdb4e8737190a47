-- written by this session's own driver (wip/gen.py) with the kit's print and contracts of our own
import Derived.Test.YteboofglcnceoaaPrintA0
import Derived.Test.YteboofglcnceoaaPrintA3
import Derived.Test.YteboofglcnceoaaPrintA4
namespace Go.Proofs.Yteboofglcnceoaa.PrintA
open Go.RowKit Go.Proofs.YteboofglcnceoaaLib Go.Proofs.YteboofglcnceoaaW.PrintWords Go.Proofs.YteboofglcnceoaaW.PrintLast Go.Proofs.YteboofglcnceoaaW.PrintMore
attribute [local go_sem] max2_int min2_int max_two min_two max_three min_three max_four min_four   -- for this text's walks alone
set_option linter.unusedVariables false
set_option linter.unusedSimpArgs false

/-! behind spec_kiAsked -/
-- LIB Kinds
theorem kiAsked_is (a b c : Int) : spec_kiAsked.f a b c = some (kAsk a b c) := by
  unfold spec_kiAsked.f spec_kiFloors.f kAsk
  simp only [spec_l1In_is, Option.bind_some]
  cases (decide (1 ≤ a) && decide (a ≤ 3)) <;> cases (decide (1 ≤ b) && decide (b ≤ 3)) <;> cases (decide (0 ≤ c) && decide (c ≤ 6)) <;> rfl

/-! ### spec_kiPlace: function 24 -/
def spec_kiPlace.f (a0_0 : Int) (a0_1 : Int) (a0_2 : Int) (a0_3 : Int) (a0_4 : Int) (a0_5 : Int) : Option (Int) := some (wrap64 ((wrap64 ((wrap64 ((wrap64 ((wrap64 ((wrap64 ((wrap64 ((wrap64 ((wrap64 ((wrap64 (a0_0 * 7)) + a0_1)) * 7)) + a0_2)) * 7)) + a0_3)) * 4)) + a0_4)) * 4)) + a0_5))
set_option maxHeartbeats 8000000 in
set_option maxRecDepth 100000 in
theorem spec_kiPlace.calls (a0_0 : Int) (a0_1 : Int) (a0_2 : Int) (a0_3 : Int) (a0_4 : Int) (a0_5 : Int) (r : Int) (w : World) (h : spec_kiPlace.f a0_0 a0_1 a0_2 a0_3 a0_4 a0_5 = some r) :
    Calls Try.prog 24 #[.agg #[.int .i64 a0_0, .int .i64 a0_1, .int .i64 a0_2, .int .i64 a0_3, .int .i64 a0_4, .int .i64 a0_5]] w fun e w' => e = .returned (.int .i64 r) ∧ Below w.heap.size w w' := by
  have hu31 := Try.underlying31
  have HB := Aside0.mk (Below.refl w.heap.size w)
  have H : (some (wrap64 ((wrap64 ((wrap64 ((wrap64 ((wrap64 ((wrap64 ((wrap64 ((wrap64 ((wrap64 ((wrap64 (a0_0 * 7)) + a0_1)) * 7)) + a0_2)) * 7)) + a0_3)) * 4)) + a0_4)) * 4)) + a0_5))) = some r := h
  clear h
  obtain rfl := Option.some.inj H
  go_enter Try.func24, Try.ntmps24
  go_wp2_with (first | ((with_reducible refine gate_dst (N := 1) rfl ?_); refine box_event ?hg (N := 1) ?hd (cs := #[.int .i64 a0_0, .int .i64 a0_1, .int .i64 a0_2, .int .i64 a0_3, .int .i64 a0_4, .int .i64 a0_5]) (t := 31) ?hr ?_; (case hd => rfl); (case hg => rfl); (case hr => first | (go_simp; done) | (go_simp; rfl)); intro gb105 hg w2 hbox hb; have n0_ := Aside0.mk (below_step (by repeat (first | (with_reducible first | exact HB.out | apply below_alloc | apply pw_below_drewN | apply below_drew1) | exact HB.out)) hb); have n1_ := Aside0.mk (hbox); have n2_ := Aside0.mk ((by rw [hg]; exact (below_size (by repeat (first | (with_reducible first | exact HB.out | apply below_alloc | apply pw_below_drewN | apply below_drew1) | exact HB.out))) : w.heap.size ≤ gb105)); have n3_ := Aside0.mk ((by rw [hg]; exact (below_size (by repeat (first | (with_reducible first | exact HB.out | apply below_alloc | apply pw_below_drewN | apply below_drew1) | exact HB.out))) : w.heap.size ≤ gb105)); clear HB; have HB := n0_; have BK105 := n1_; have GW105 := n2_; have GE105 := n3_; clear n0_ n1_ n2_ n3_; clear hb hbox hg; have hcz3_0 : w2.cell? ⟨gb105, 0, none⟩ = some (.int .i64 a0_0) := (blk_cell BK105.out 0).trans rfl; have hcz3_1 : w2.cell? ⟨gb105, 1, none⟩ = some (.int .i64 a0_1) := (blk_cell BK105.out 1).trans rfl; have hcz3_2 : w2.cell? ⟨gb105, 2, none⟩ = some (.int .i64 a0_2) := (blk_cell BK105.out 2).trans rfl; have hcz3_3 : w2.cell? ⟨gb105, 3, none⟩ = some (.int .i64 a0_3) := (blk_cell BK105.out 3).trans rfl; have hcz3_4 : w2.cell? ⟨gb105, 4, none⟩ = some (.int .i64 a0_4) := (blk_cell BK105.out 4).trans rfl; have hcz3_5 : w2.cell? ⟨gb105, 5, none⟩ = some (.int .i64 a0_5) := (blk_cell BK105.out 5).trans rfl; have hfz3_0 := blk_frozen BK105.out 0; have hfz3_1 := blk_frozen BK105.out 1; have hfz3_2 := blk_frozen BK105.out 2; have hfz3_3 := blk_frozen BK105.out 3; have hfz3_4 := blk_frozen BK105.out 4; have hfz3_5 := blk_frozen BK105.out 5))
  go_ret
  exact ⟨by first | rfl | (simp [errW_none, errW_some] <;> rfl) | (simp [*, errW_none, errW_some] <;> rfl), by repeat (first | (with_reducible first | exact HB.out | apply below_alloc | apply pw_below_drewN | apply below_drew1 | refine below_set ?_ GE105.out) | exact HB.out)⟩

/-! behind spec_kiPlace -/
-- LIB Kinds
theorem kiPlace_is (k : KSt) (hk : KOk k) : spec_kiPlace.f k.a k.b k.c k.d k.w k.s = some ((kPlace k : Nat) : Int) := by
  rw [kPlace_cast hk]
  obtain ⟨a, b, c, d, we, se⟩ := k
  obtain ⟨h1, h2, h3, h4, h5, h6, h7, h8, h9, h10⟩ := hk
  simp only at h1 h2 h3 h4 h5 h6 h7 h8 h9 h10
  unfold spec_kiPlace.f
  simp only
  have e1 : wrap64 (a * 7) = a * 7 := by unfold wrap64; omega
  have e2 : wrap64 (a * 7 + b) = a * 7 + b := by clear e1; unfold wrap64; omega
  rw [e1, e2]
  clear e1 e2
  generalize hp : a * 7 + b = p
  have hp1 : 0 ≤ p ∧ p ≤ 48 := by omega
  clear hp
  have e1 : wrap64 (p * 7) = p * 7 := by unfold wrap64; omega
  have e2 : wrap64 (p * 7 + c) = p * 7 + c := by clear e1; unfold wrap64; omega
  rw [e1, e2]
  clear e1 e2
  generalize hq : p * 7 + c = q
  have hq1 : 0 ≤ q ∧ q ≤ 342 := by omega
  clear hq
  have e1 : wrap64 (q * 7) = q * 7 := by unfold wrap64; omega
  have e2 : wrap64 (q * 7 + d) = q * 7 + d := by clear e1; unfold wrap64; omega
  rw [e1, e2]
  clear e1 e2
  generalize hr : q * 7 + d = r
  have hr1 : 0 ≤ r ∧ r ≤ 2400 := by omega
  clear hr
  have e1 : wrap64 (r * 4) = r * 4 := by unfold wrap64; omega
  have e2 : wrap64 (r * 4 + we) = r * 4 + we := by clear e1; unfold wrap64; omega
  rw [e1, e2]
  clear e1 e2
  generalize hs : r * 4 + we = u
  have hs1 : 0 ≤ u ∧ u ≤ 9603 := by omega
  clear hs
  have e1 : wrap64 (u * 4) = u * 4 := by unfold wrap64; omega
  have e2 : wrap64 (u * 4 + se) = u * 4 + se := by clear e1; unfold wrap64; omega
  rw [e1, e2]

end Go.Proofs.Yteboofglcnceoaa.PrintA
