-- written by this session's own driver (wip/gen.py) with the kit's print and contracts of our own
import Derived.Test.YtkbmefmnfoalhaaPrintC0
import Derived.Test.YtkbmefmnfoalhaaPrintC1
import Derived.Test.YtkbmefmnfoalhaaPrintC2
import Derived.Test.YtkbmefmnfoalhaaPrintC23
import Derived.Test.YtkbmefmnfoalhaaPrintC25
import Derived.Test.YtkbmefmnfoalhaaPrintC27
import Derived.Test.YtkbmefmnfoalhaaPrintC30
import Derived.Test.YtkbmefmnfoalhaaPrintC32
namespace Go.Proofs.Ytkbmefmnfoalhaa.PrintC
open Go.RowKit Go.Proofs.YtkbmefmnfoalhaaLib Go.Proofs.YtkbmefmnfoalhaaW.PrintWords Go.Proofs.YtkbmefmnfoalhaaW.PrintLast Go.Proofs.YtkbmefmnfoalhaaW.PrintMore
attribute [local go_sem] max2_int min2_int max_two min_two max_three min_three max_four min_four   -- for this text's walks alone
set_option linter.unusedVariables false
set_option linter.unusedSimpArgs false

/-! ### laws_FnExactCostFloors: function 8, a law -/
/-- THE ONE PURE STATEMENT of laws_FnExactCostFloors. -/
def laws_FnExactCostFloors.Pure : Prop := ∀ (a0_0 a0_1 a0_2 : Int) (a1 : Int) (a2 : Int), (Lit.int .i64 a0_0).wf = true → (Lit.int .i64 a0_1).wf = true → (Lit.int .i64 a0_2).wf = true → (Lit.int .i64 a1).wf = true → (Lit.int .i64 a2).wf = true → ∃ (k1 : Nat) (r1 : List Int) (r2 : Bool), spec_CostFloors.f k1 a0_0 a0_1 a0_2 a1 a2 = some (r1, r2) ∧ impl_CostFloors.f a0_0 a0_1 a0_2 a1 a2 = some (r1, r2) ∧ r1.length ≤ 1000000
set_option maxHeartbeats 8000000 in
set_option maxRecDepth 100000 in
theorem laws_FnExactCostFloors.alike (k1 : Nat) (a0_0 a0_1 a0_2 : Int) (a1 : Int) (a2 : Int) (r1 : List Int) (r2 : Bool) (w : World)  (hs : spec_CostFloors.f k1 a0_0 a0_1 a0_2 a1 a2 = some (r1, r2)) (hi : impl_CostFloors.f a0_0 a0_1 a0_2 a1 a2 = some (r1, r2)) (hb_r1 : r1.length ≤ 1000000) :
    Calls Try.prog 8 #[.agg #[.int .i64 a0_0, .int .i64 a0_1, .int .i64 a0_2], .int .i64 a1, .int .i64 a2] w fun e w' => e = .returned (.bool true) ∧ Below w.heap.size w w' := by
  have HBD_r1 := Aside0.mk hb_r1
  clear hb_r1
  have HS := Aside0.mk hs
  have HI := Aside0.mk hi
  clear hs hi
  have HB := Aside0.mk (below_alloc (Below.refl w.heap.size w) (.cells #[.int .i64 a0_0, .int .i64 a0_1, .int .i64 a0_2] 26 (0, 0)))
  have K0 := Aside0.mk (blk_new w (.cells #[.int .i64 a0_0, .int .i64 a0_1, .int .i64 a0_2] 26 (0, 0)))
  go_enter Try.func8, Try.ntmps8
  go_wp2_with fail
  refine (laws_toPrices.calls a0_0 a0_1 a0_2 a0_0 a0_1 a0_2 _ (by unfold laws_toPrices.f; rfl)).mono ?_
  rintro e w1_ ⟨rfl, hb⟩
  have HZ1 : Aside0 ((w.alloc (.cells #[.int .i64 a0_0, .int .i64 a0_1, .int .i64 a0_2] 26 (0, 0))).heap.size ≤ w1_.heap.size) := ⟨hb.size⟩
  have K0_ := Aside0.mk (blk_below K0.out hb)
  clear K0
  have K0 := K0_
  clear K0_
  have hx0_ : w1_.cell? ⟨w.heap.size, 0, none⟩ = some (.int .i64 a0_0) := (blk_cell K0.out 0).trans rfl
  have hx1_ : w1_.cell? ⟨w.heap.size, 1, none⟩ = some (.int .i64 a0_1) := (blk_cell K0.out 1).trans rfl
  have hx2_ : w1_.cell? ⟨w.heap.size, 2, none⟩ = some (.int .i64 a0_2) := (blk_cell K0.out 2).trans rfl
  have HB_ := Aside0.mk (below_step HB.out hb)
  clear HB hb
  have HB := HB_
  clear HB_
  go_wp2_with fail
  refine (spec_CostFloors.calls k1 a0_0 a0_1 a0_2 a1 a2 r1 r2 _  HS.out).mono ?_
  rintro e w2_ ⟨v1_, rfl, ho0, hb⟩
  have HB0 : Aside0 (w.heap.size ≤ w1_.heap.size) := ⟨HB.out.size⟩
  have HZ2 : Aside0 (w1_.heap.size ≤ w2_.heap.size) := ⟨hb.size⟩
  clear hx0_ hx1_ hx2_
  have K0_ := Aside0.mk (blk_below K0.out hb)
  clear K0
  have K0 := K0_
  clear K0_
  have hx0_ : w2_.cell? ⟨w.heap.size, 0, none⟩ = some (.int .i64 a0_0) := (blk_cell K0.out 0).trans rfl
  have hx1_ : w2_.cell? ⟨w.heap.size, 1, none⟩ = some (.int .i64 a0_1) := (blk_cell K0.out 1).trans rfl
  have hx2_ : w2_.cell? ⟨w.heap.size, 2, none⟩ = some (.int .i64 a0_2) := (blk_cell K0.out 2).trans rfl
  have HB_ := Aside0.mk (below_step HB.out hb)
  clear HB hb
  have HB := HB_
  clear HB_
  obtain ⟨A3_, c4_, hv_⟩ := Kd.R_slice ho0
  subst hv_
  have R2_ := Aside0.mk (r_btw (b0 := w.heap.size) ho0 (by have := HB0.out; exact this))
  clear ho0
  clear HB0
  go_wp2_with fail
  refine (laws_toPrices.calls a0_0 a0_1 a0_2 a0_0 a0_1 a0_2 _ (by unfold laws_toPrices.f; rfl)).mono ?_
  rintro e w3_ ⟨rfl, hb⟩
  have HZ3 : Aside0 (w2_.heap.size ≤ w3_.heap.size) := ⟨hb.size⟩
  clear hx0_ hx1_ hx2_
  have K0_ := Aside0.mk (blk_below K0.out hb)
  clear K0
  have K0 := K0_
  clear K0_
  have hx0_ : w3_.cell? ⟨w.heap.size, 0, none⟩ = some (.int .i64 a0_0) := (blk_cell K0.out 0).trans rfl
  have hx1_ : w3_.cell? ⟨w.heap.size, 1, none⟩ = some (.int .i64 a0_1) := (blk_cell K0.out 1).trans rfl
  have hx2_ : w3_.cell? ⟨w.heap.size, 2, none⟩ = some (.int .i64 a0_2) := (blk_cell K0.out 2).trans rfl
  have R2__ := Aside0.mk (Kd.R_below R2_.out hb)
  clear R2_
  have R2_ := R2__
  clear R2__
  have HB_ := Aside0.mk (below_step HB.out hb)
  clear HB hb
  have HB := HB_
  clear HB_
  go_wp2_with fail
  refine (impl_CostFloors.calls a0_0 a0_1 a0_2 a1 a2 r1 r2 _  HI.out).mono ?_
  rintro e w4_ ⟨v5_, rfl, ho0, hb⟩
  have HB0 : Aside0 (w.heap.size ≤ w3_.heap.size) := ⟨HB.out.size⟩
  have HZ4 : Aside0 (w3_.heap.size ≤ w4_.heap.size) := ⟨hb.size⟩
  clear hx0_ hx1_ hx2_
  have K0_ := Aside0.mk (blk_below K0.out hb)
  clear K0
  have K0 := K0_
  clear K0_
  have hx0_ : w4_.cell? ⟨w.heap.size, 0, none⟩ = some (.int .i64 a0_0) := (blk_cell K0.out 0).trans rfl
  have hx1_ : w4_.cell? ⟨w.heap.size, 1, none⟩ = some (.int .i64 a0_1) := (blk_cell K0.out 1).trans rfl
  have hx2_ : w4_.cell? ⟨w.heap.size, 2, none⟩ = some (.int .i64 a0_2) := (blk_cell K0.out 2).trans rfl
  have R2__ := Aside0.mk (Kd.R_below R2_.out hb)
  clear R2_
  have R2_ := R2__
  clear R2__
  have HB_ := Aside0.mk (below_step HB.out hb)
  clear HB hb
  have HB := HB_
  clear HB_
  obtain ⟨A7_, c8_, hv_⟩ := Kd.R_slice ho0
  subst hv_
  have R6_ := Aside0.mk (r_btw (b0 := w.heap.size) ho0 (by have := HB0.out; exact this))
  clear ho0
  clear HB0
  go_wp2_with fail
  refine (eqIntS_alike _ _ _ _ _ _ (Kd.R_reads' R6_.out).2.2 (Kd.R_reads' R6_.out).2.1 (Kd.R_reads' R2_.out).2.2 (Kd.R_reads' R2_.out).2.1 HBD_r1.out).mono ?_
  rintro e w5_ ⟨rfl, hb⟩
  have HZ5 : Aside0 (w4_.heap.size ≤ w5_.heap.size) := ⟨hb.size⟩
  clear hx0_ hx1_ hx2_
  have K0_ := Aside0.mk (blk_below K0.out hb)
  clear K0
  have K0 := K0_
  clear K0_
  have hx0_ : w5_.cell? ⟨w.heap.size, 0, none⟩ = some (.int .i64 a0_0) := (blk_cell K0.out 0).trans rfl
  have hx1_ : w5_.cell? ⟨w.heap.size, 1, none⟩ = some (.int .i64 a0_1) := (blk_cell K0.out 1).trans rfl
  have hx2_ : w5_.cell? ⟨w.heap.size, 2, none⟩ = some (.int .i64 a0_2) := (blk_cell K0.out 2).trans rfl
  have R2__ := Aside0.mk (Kd.R_below R2_.out hb)
  clear R2_
  have R2_ := R2__
  clear R2__
  have R6__ := Aside0.mk (Kd.R_below R6_.out hb)
  clear R6_
  have R6_ := R6__
  clear R6__
  have HB_ := Aside0.mk (below_step HB.out hb)
  clear HB hb
  have HB := HB_
  clear HB_
  go_wp2_with fail
  refine (markIntS_own _ _ _ _ _ 101 _ _ HB.out rfl R6_.out HBD_r1.out (by omega) (by omega)).mono ?_
  rintro e w6_ ⟨rfl, hr, hB, hk⟩
  have HZ6 : Aside0 (w5_.heap.size ≤ w6_.heap.size) := ⟨hk.1⟩
  have R2__ := Aside0.mk (r_keep R2_.out hk (fun k h1 h2 => btw_ne h1 h2 HZ3.out))
  clear R2_
  have R2_ := R2__
  clear R2__
  clear R6_
  have K0_ := Aside0.mk ((hk.2 w.heap.size (blk_lt K0.out) (fun hS => by have h_ := hS; unfold Btw at h_; have z1 := HZ1.out; have z2 := HZ2.out; have z3 := HZ3.out; have z4 := HZ4.out; have z5 := HZ5.out; have z6 := HZ6.out; simp at z1; omega)).trans K0.out)
  clear K0
  have K0 := K0_
  clear K0_
  clear hx0_ hx1_ hx2_
  have hx0_ : w6_.cell? ⟨w.heap.size, 0, none⟩ = some (.int .i64 a0_0) := (blk_cell K0.out 0).trans rfl
  have hx1_ : w6_.cell? ⟨w.heap.size, 1, none⟩ = some (.int .i64 a0_1) := (blk_cell K0.out 1).trans rfl
  have hx2_ : w6_.cell? ⟨w.heap.size, 2, none⟩ = some (.int .i64 a0_2) := (blk_cell K0.out 2).trans rfl
  clear HB hk
  have HB := Aside0.mk hB
  clear hB
  have M9_ := Aside0.mk hr
  clear hr
  go_wp2_with fail
  refine (heldIntS_own _ _ _ _ 101 _ _ M9_.out HBD_r1.out (by omega) (by omega)).mono ?_
  rintro e w7_ ⟨rfl, hd⟩
  have hb := hd.below
  clear hd
  have HZ7 : Aside0 (w6_.heap.size ≤ w7_.heap.size) := ⟨hb.size⟩
  clear hx0_ hx1_ hx2_
  have K0_ := Aside0.mk (blk_below K0.out hb)
  clear K0
  have K0 := K0_
  clear K0_
  have hx0_ : w7_.cell? ⟨w.heap.size, 0, none⟩ = some (.int .i64 a0_0) := (blk_cell K0.out 0).trans rfl
  have hx1_ : w7_.cell? ⟨w.heap.size, 1, none⟩ = some (.int .i64 a0_1) := (blk_cell K0.out 1).trans rfl
  have hx2_ : w7_.cell? ⟨w.heap.size, 2, none⟩ = some (.int .i64 a0_2) := (blk_cell K0.out 2).trans rfl
  have R2__ := Aside0.mk (Kd.R_below R2_.out hb)
  clear R2_
  have R2_ := R2__
  clear R2__
  have M9__ := Aside0.mk (Kd.R_below M9_.out hb)
  clear M9_
  have M9_ := M9__
  clear M9__
  have HB_ := Aside0.mk (below_step HB.out hb)
  clear HB hb
  have HB := HB_
  clear HB_
  go_wp2_with fail
  refine (laws_toPrices.calls a0_0 a0_1 a0_2 a0_0 a0_1 a0_2 _ (by unfold laws_toPrices.f; rfl)).mono ?_
  rintro e w8_ ⟨rfl, hb⟩
  have HZ8 : Aside0 (w7_.heap.size ≤ w8_.heap.size) := ⟨hb.size⟩
  clear hx0_ hx1_ hx2_
  have K0_ := Aside0.mk (blk_below K0.out hb)
  clear K0
  have K0 := K0_
  clear K0_
  have hx0_ : w8_.cell? ⟨w.heap.size, 0, none⟩ = some (.int .i64 a0_0) := (blk_cell K0.out 0).trans rfl
  have hx1_ : w8_.cell? ⟨w.heap.size, 1, none⟩ = some (.int .i64 a0_1) := (blk_cell K0.out 1).trans rfl
  have hx2_ : w8_.cell? ⟨w.heap.size, 2, none⟩ = some (.int .i64 a0_2) := (blk_cell K0.out 2).trans rfl
  have R2__ := Aside0.mk (Kd.R_below R2_.out hb)
  clear R2_
  have R2_ := R2__
  clear R2__
  have M9__ := Aside0.mk (Kd.R_below M9_.out hb)
  clear M9_
  have M9_ := M9__
  clear M9__
  have HB_ := Aside0.mk (below_step HB.out hb)
  clear HB hb
  have HB := HB_
  clear HB_
  go_wp2_with fail
  refine (impl_CostFloors.calls a0_0 a0_1 a0_2 a1 a2 r1 r2 _  HI.out).mono ?_
  rintro e w9_ ⟨v10_, rfl, ho0, hb⟩
  have HB0 : Aside0 (w.heap.size ≤ w8_.heap.size) := ⟨HB.out.size⟩
  have HZ9 : Aside0 (w8_.heap.size ≤ w9_.heap.size) := ⟨hb.size⟩
  clear hx0_ hx1_ hx2_
  have K0_ := Aside0.mk (blk_below K0.out hb)
  clear K0
  have K0 := K0_
  clear K0_
  have hx0_ : w9_.cell? ⟨w.heap.size, 0, none⟩ = some (.int .i64 a0_0) := (blk_cell K0.out 0).trans rfl
  have hx1_ : w9_.cell? ⟨w.heap.size, 1, none⟩ = some (.int .i64 a0_1) := (blk_cell K0.out 1).trans rfl
  have hx2_ : w9_.cell? ⟨w.heap.size, 2, none⟩ = some (.int .i64 a0_2) := (blk_cell K0.out 2).trans rfl
  have R2__ := Aside0.mk (Kd.R_below R2_.out hb)
  clear R2_
  have R2_ := R2__
  clear R2__
  have M9__ := Aside0.mk (Kd.R_below M9_.out hb)
  clear M9_
  have M9_ := M9__
  clear M9__
  have HB_ := Aside0.mk (below_step HB.out hb)
  clear HB hb
  have HB := HB_
  clear HB_
  obtain ⟨A12_, c13_, hv_⟩ := Kd.R_slice ho0
  subst hv_
  have R11_ := Aside0.mk (r_btw (b0 := w.heap.size) ho0 (by have := HB0.out; exact this))
  clear ho0
  clear HB0
  go_wp2_with fail
  refine (eqIntS_alike _ _ _ _ _ _ (Kd.R_reads' R11_.out).2.2 (Kd.R_reads' R11_.out).2.1 (Kd.R_reads' R2_.out).2.2 (Kd.R_reads' R2_.out).2.1 HBD_r1.out).mono ?_
  rintro e w10_ ⟨rfl, hb⟩
  have HZ10 : Aside0 (w9_.heap.size ≤ w10_.heap.size) := ⟨hb.size⟩
  clear hx0_ hx1_ hx2_
  have K0_ := Aside0.mk (blk_below K0.out hb)
  clear K0
  have K0 := K0_
  clear K0_
  have hx0_ : w10_.cell? ⟨w.heap.size, 0, none⟩ = some (.int .i64 a0_0) := (blk_cell K0.out 0).trans rfl
  have hx1_ : w10_.cell? ⟨w.heap.size, 1, none⟩ = some (.int .i64 a0_1) := (blk_cell K0.out 1).trans rfl
  have hx2_ : w10_.cell? ⟨w.heap.size, 2, none⟩ = some (.int .i64 a0_2) := (blk_cell K0.out 2).trans rfl
  have R2__ := Aside0.mk (Kd.R_below R2_.out hb)
  clear R2_
  have R2_ := R2__
  clear R2__
  have M9__ := Aside0.mk (Kd.R_below M9_.out hb)
  clear M9_
  have M9_ := M9__
  clear M9__
  have R11__ := Aside0.mk (Kd.R_below R11_.out hb)
  clear R11_
  have R11_ := R11__
  clear R11__
  have HB_ := Aside0.mk (below_step HB.out hb)
  clear HB hb
  have HB := HB_
  clear HB_
  go_wp2_with fail
  refine (heldIntS_own _ _ _ _ 101 _ _ M9_.out HBD_r1.out (by omega) (by omega)).mono ?_
  rintro e w11_ ⟨rfl, hd⟩
  have hb := hd.below
  clear hd
  have HZ11 : Aside0 (w10_.heap.size ≤ w11_.heap.size) := ⟨hb.size⟩
  clear hx0_ hx1_ hx2_
  have K0_ := Aside0.mk (blk_below K0.out hb)
  clear K0
  have K0 := K0_
  clear K0_
  have hx0_ : w11_.cell? ⟨w.heap.size, 0, none⟩ = some (.int .i64 a0_0) := (blk_cell K0.out 0).trans rfl
  have hx1_ : w11_.cell? ⟨w.heap.size, 1, none⟩ = some (.int .i64 a0_1) := (blk_cell K0.out 1).trans rfl
  have hx2_ : w11_.cell? ⟨w.heap.size, 2, none⟩ = some (.int .i64 a0_2) := (blk_cell K0.out 2).trans rfl
  have R2__ := Aside0.mk (Kd.R_below R2_.out hb)
  clear R2_
  have R2_ := R2__
  clear R2__
  have M9__ := Aside0.mk (Kd.R_below M9_.out hb)
  clear M9_
  have M9_ := M9__
  clear M9__
  have R11__ := Aside0.mk (Kd.R_below R11_.out hb)
  clear R11_
  have R11_ := R11__
  clear R11__
  have HB_ := Aside0.mk (below_step HB.out hb)
  clear HB hb
  have HB := HB_
  clear HB_
  go_wp2
  go_ret
  exact ⟨rfl, HB.out⟩
set_option maxHeartbeats 4000000 in
set_option maxRecDepth 100000 in
theorem laws_FnExactCostFloors.walk (P : laws_FnExactCostFloors.Pure) (a0_0 a0_1 a0_2 : Int) (a1 : Int) (a2 : Int) (w : World) (w0_0 : (Lit.int .i64 a0_0).wf = true) (w0_1 : (Lit.int .i64 a0_1).wf = true) (w0_2 : (Lit.int .i64 a0_2).wf = true) (w1 : (Lit.int .i64 a1).wf = true) (w2 : (Lit.int .i64 a2).wf = true) :
    Calls Try.prog 8 #[.agg #[.int .i64 a0_0, .int .i64 a0_1, .int .i64 a0_2], .int .i64 a1, .int .i64 a2] w fun e w' => e = .returned (.bool true) ∧ Below w.heap.size w w' := by
  obtain ⟨k1, r1, r2, hs, hi, hb_r1⟩ := P a0_0 a0_1 a0_2 a1 a2 w0_0 w0_1 w0_2 w1 w2
  exact laws_FnExactCostFloors.alike k1  a0_0 a0_1 a0_2 a1 a2 r1 r2 w  hs hi hb_r1


end Go.Proofs.Ytkbmefmnfoalhaa.PrintC
