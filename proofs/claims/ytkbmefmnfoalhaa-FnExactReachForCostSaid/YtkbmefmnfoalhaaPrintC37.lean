-- written by this session's own driver (wip/gen.py) with the kit's print and contracts of our own
import Derived.Test.YtkbmefmnfoalhaaPrintC0
import Derived.Test.YtkbmefmnfoalhaaPrintC2
import Derived.Test.YtkbmefmnfoalhaaPrintC34
import Derived.Test.YtkbmefmnfoalhaaPrintC36
namespace Go.Proofs.Ytkbmefmnfoalhaa.PrintC
open Go.RowKit Go.Proofs.YtkbmefmnfoalhaaLib Go.Proofs.YtkbmefmnfoalhaaW.PrintWords Go.Proofs.YtkbmefmnfoalhaaW.PrintLast Go.Proofs.YtkbmefmnfoalhaaW.PrintMore
attribute [local go_sem] max2_int min2_int max_two min_two max_three min_three max_four min_four   -- for this text's walks alone
set_option linter.unusedVariables false
set_option linter.unusedSimpArgs false

/-! ### laws_FnExactReachForCost: function 6, a law -/
/-- THE ONE PURE STATEMENT of laws_FnExactReachForCost. -/
def laws_FnExactReachForCost.Pure : Prop := ∀ (a0_0 a0_1 a0_2 : Int) (a1 : Int) (a2 : Int), (Lit.int .i64 a0_0).wf = true → (Lit.int .i64 a0_1).wf = true → (Lit.int .i64 a0_2).wf = true → (Lit.int .i64 a1).wf = true → (Lit.int .i64 a2).wf = true → ∃ (k1 : Nat) (r1 : Int) (r2 : Bool), spec_ReachForCost.f k1 a0_0 a0_1 a0_2 a1 a2 = some (r1, r2) ∧ impl_ReachForCost.f a0_0 a0_1 a0_2 a1 a2 = some (r1, r2)
set_option maxHeartbeats 8000000 in
set_option maxRecDepth 100000 in
theorem laws_FnExactReachForCost.alike (k1 : Nat) (a0_0 a0_1 a0_2 : Int) (a1 : Int) (a2 : Int) (r1 : Int) (r2 : Bool) (w : World)  (hs : spec_ReachForCost.f k1 a0_0 a0_1 a0_2 a1 a2 = some (r1, r2)) (hi : impl_ReachForCost.f a0_0 a0_1 a0_2 a1 a2 = some (r1, r2)) :
    Calls Try.prog 6 #[.agg #[.int .i64 a0_0, .int .i64 a0_1, .int .i64 a0_2], .int .i64 a1, .int .i64 a2] w fun e w' => e = .returned (.bool true) ∧ Below w.heap.size w w' := by
  have HS := Aside0.mk hs
  have HI := Aside0.mk hi
  clear hs hi
  have HB := Aside0.mk (below_alloc (Below.refl w.heap.size w) (.cells #[.int .i64 a0_0, .int .i64 a0_1, .int .i64 a0_2] 26 (0, 0)))
  have K0 := Aside0.mk (blk_new w (.cells #[.int .i64 a0_0, .int .i64 a0_1, .int .i64 a0_2] 26 (0, 0)))
  go_enter Try.func6, Try.ntmps6
  go_wp2_with fail
  refine (laws_toPrices.calls a0_0 a0_1 a0_2 a0_0 a0_1 a0_2 _ (by unfold laws_toPrices.f; rfl)).mono ?_
  rintro e w1_ ⟨rfl, hb⟩
  have HZ1 : Aside0 ((w.alloc (.cells #[.int .i64 a0_0, .int .i64 a0_1, .int .i64 a0_2] 26 (0, 0))).heap.size ≤ w1_.heap.size) := ⟨hb.size⟩
  have K0_ := Aside0.mk (blk_below K0.out hb)
  clear K0
  have K0 := K0_
  clear K0_
  have hx0_ : w1_.cell? ⟨w.heap.size, 0, none⟩ = some (.int .i64 a0_0) := (blk_cell K0.out 0).trans rfl
  have hx1_ : w1_.cell? ⟨w.heap.size, 1, none⟩ = some (.int .i64 a0_1) := (blk_cell K0.out 1).trans rfl
  have hx2_ : w1_.cell? ⟨w.heap.size, 2, none⟩ = some (.int .i64 a0_2) := (blk_cell K0.out 2).trans rfl
  have HB_ := Aside0.mk (below_step HB.out hb)
  clear HB hb
  have HB := HB_
  clear HB_
  go_wp2_with fail
  refine (spec_ReachForCost.calls k1 a0_0 a0_1 a0_2 a1 a2 r1 r2 _  HS.out).mono ?_
  rintro e w2_ ⟨rfl, hb⟩
  have HB0 : Aside0 (w.heap.size ≤ w1_.heap.size) := ⟨HB.out.size⟩
  have HZ2 : Aside0 (w1_.heap.size ≤ w2_.heap.size) := ⟨hb.size⟩
  clear hx0_ hx1_ hx2_
  have K0_ := Aside0.mk (blk_below K0.out hb)
  clear K0
  have K0 := K0_
  clear K0_
  have hx0_ : w2_.cell? ⟨w.heap.size, 0, none⟩ = some (.int .i64 a0_0) := (blk_cell K0.out 0).trans rfl
  have hx1_ : w2_.cell? ⟨w.heap.size, 1, none⟩ = some (.int .i64 a0_1) := (blk_cell K0.out 1).trans rfl
  have hx2_ : w2_.cell? ⟨w.heap.size, 2, none⟩ = some (.int .i64 a0_2) := (blk_cell K0.out 2).trans rfl
  have HB_ := Aside0.mk (below_step HB.out hb)
  clear HB hb
  have HB := HB_
  clear HB_
  clear HB0
  go_wp2_with fail
  refine (laws_toPrices.calls a0_0 a0_1 a0_2 a0_0 a0_1 a0_2 _ (by unfold laws_toPrices.f; rfl)).mono ?_
  rintro e w3_ ⟨rfl, hb⟩
  have HZ3 : Aside0 (w2_.heap.size ≤ w3_.heap.size) := ⟨hb.size⟩
  clear hx0_ hx1_ hx2_
  have K0_ := Aside0.mk (blk_below K0.out hb)
  clear K0
  have K0 := K0_
  clear K0_
  have hx0_ : w3_.cell? ⟨w.heap.size, 0, none⟩ = some (.int .i64 a0_0) := (blk_cell K0.out 0).trans rfl
  have hx1_ : w3_.cell? ⟨w.heap.size, 1, none⟩ = some (.int .i64 a0_1) := (blk_cell K0.out 1).trans rfl
  have hx2_ : w3_.cell? ⟨w.heap.size, 2, none⟩ = some (.int .i64 a0_2) := (blk_cell K0.out 2).trans rfl
  have HB_ := Aside0.mk (below_step HB.out hb)
  clear HB hb
  have HB := HB_
  clear HB_
  go_wp2_with fail
  refine (impl_ReachForCost.calls a0_0 a0_1 a0_2 a1 a2 r1 r2 _  HI.out).mono ?_
  rintro e w4_ ⟨rfl, hb⟩
  have HB0 : Aside0 (w.heap.size ≤ w3_.heap.size) := ⟨HB.out.size⟩
  have HZ4 : Aside0 (w3_.heap.size ≤ w4_.heap.size) := ⟨hb.size⟩
  clear hx0_ hx1_ hx2_
  have K0_ := Aside0.mk (blk_below K0.out hb)
  clear K0
  have K0 := K0_
  clear K0_
  have hx0_ : w4_.cell? ⟨w.heap.size, 0, none⟩ = some (.int .i64 a0_0) := (blk_cell K0.out 0).trans rfl
  have hx1_ : w4_.cell? ⟨w.heap.size, 1, none⟩ = some (.int .i64 a0_1) := (blk_cell K0.out 1).trans rfl
  have hx2_ : w4_.cell? ⟨w.heap.size, 2, none⟩ = some (.int .i64 a0_2) := (blk_cell K0.out 2).trans rfl
  have HB_ := Aside0.mk (below_step HB.out hb)
  clear HB hb
  have HB := HB_
  clear HB_
  clear HB0
  go_wp2
  go_ret
  exact ⟨rfl, HB.out⟩
set_option maxHeartbeats 4000000 in
set_option maxRecDepth 100000 in
theorem laws_FnExactReachForCost.walk (P : laws_FnExactReachForCost.Pure) (a0_0 a0_1 a0_2 : Int) (a1 : Int) (a2 : Int) (w : World) (w0_0 : (Lit.int .i64 a0_0).wf = true) (w0_1 : (Lit.int .i64 a0_1).wf = true) (w0_2 : (Lit.int .i64 a0_2).wf = true) (w1 : (Lit.int .i64 a1).wf = true) (w2 : (Lit.int .i64 a2).wf = true) :
    Calls Try.prog 6 #[.agg #[.int .i64 a0_0, .int .i64 a0_1, .int .i64 a0_2], .int .i64 a1, .int .i64 a2] w fun e w' => e = .returned (.bool true) ∧ Below w.heap.size w w' := by
  obtain ⟨k1, r1, r2, hs, hi⟩ := P a0_0 a0_1 a0_2 a1 a2 w0_0 w0_1 w0_2 w1 w2
  exact laws_FnExactReachForCost.alike k1  a0_0 a0_1 a0_2 a1 a2 r1 r2 w  hs hi


end Go.Proofs.Ytkbmefmnfoalhaa.PrintC
