-- written by this session's own driver (wip/gen.py) with the kit's print and contracts of our own
import Derived.Test.YtbiibhfcclfoiaaPrintA0
import Derived.Test.YtbiibhfcclfoiaaPrintA1
import Derived.Test.YtbiibhfcclfoiaaPrintA19
import Derived.Test.YtbiibhfcclfoiaaPrintA20
import Derived.Test.YtbiibhfcclfoiaaPrintA21
namespace Go.Proofs.Ytbiibhfcclfoiaa.PrintA
open Go.RowKit Go.Proofs.YtbiibhfcclfoiaaLib Go.Proofs.YtbiibhfcclfoiaaW.PrintWords Go.Proofs.YtbiibhfcclfoiaaW.PrintLast Go.Proofs.YtbiibhfcclfoiaaW.PrintMore
attribute [local go_sem] max2_int min2_int max_two min_two max_three min_three max_four min_four   -- for this text's walks alone
set_option linter.unusedVariables false
set_option linter.unusedSimpArgs false

/-! ### laws_FnExactSlowestBreaks: function 5, a law -/
/-- THE ONE PURE STATEMENT of laws_FnExactSlowestBreaks. -/
def laws_FnExactSlowestBreaks.Pure : Prop := ∀ (a0 : Int) (a1 : Int) (a2 : Int), (Lit.int .i64 a0).wf = true → (Lit.int .i64 a1).wf = true → (Lit.int .i64 a2).wf = true → ∃ (r1 : List Int) (r2 : Bool), spec_SlowestBreaks.f a0 a1 a2 = some (r1, r2) ∧ impl_SlowestBreaks.f a0 a1 a2 = some (r1, r2) ∧ r1.length ≤ 1000000
set_option maxHeartbeats 8000000 in
set_option maxRecDepth 100000 in
theorem laws_FnExactSlowestBreaks.alike (a0 : Int) (a1 : Int) (a2 : Int) (r1 : List Int) (r2 : Bool) (w : World)  (hs : spec_SlowestBreaks.f a0 a1 a2 = some (r1, r2)) (hi : impl_SlowestBreaks.f a0 a1 a2 = some (r1, r2)) (hb_r1 : r1.length ≤ 1000000) :
    Calls Try.prog 5 #[.int .i64 a0, .int .i64 a1, .int .i64 a2] w fun e w' => e = .returned (.bool true) ∧ Below w.heap.size w w' := by
  have HBD_r1 := Aside0.mk hb_r1
  clear hb_r1
  have HS := Aside0.mk hs
  have HI := Aside0.mk hi
  clear hs hi
  have HB := Aside0.mk (Below.refl w.heap.size w)
  go_enter Try.func5, Try.ntmps5
  go_wp2_with fail
  refine (spec_SlowestBreaks.calls a0 a1 a2 r1 r2 _  HS.out).mono ?_
  rintro e w1_ ⟨v1_, rfl, ho0, hb⟩
  have HB0 : Aside0 (w.heap.size ≤ w.heap.size) := ⟨HB.out.size⟩
  have HZ1 : Aside0 (w.heap.size ≤ w1_.heap.size) := ⟨hb.size⟩
  have HB_ := Aside0.mk (below_step HB.out hb)
  clear HB hb
  have HB := HB_
  clear HB_
  obtain ⟨A3_, c4_, hv_⟩ := Kd.R_slice ho0
  subst hv_
  have R2_ := Aside0.mk (r_btw (b0 := w.heap.size) ho0 (by have := HB0.out; exact this))
  clear ho0
  clear HB0
  go_wp2_with fail
  refine (impl_SlowestBreaks.calls a0 a1 a2 r1 r2 _  HI.out).mono ?_
  rintro e w2_ ⟨v5_, rfl, ho0, hb⟩
  have HB0 : Aside0 (w.heap.size ≤ w1_.heap.size) := ⟨HB.out.size⟩
  have HZ2 : Aside0 (w1_.heap.size ≤ w2_.heap.size) := ⟨hb.size⟩
  have R2__ := Aside0.mk (Kd.R_below R2_.out hb)
  clear R2_
  have R2_ := R2__
  clear R2__
  have HB_ := Aside0.mk (below_step HB.out hb)
  clear HB hb
  have HB := HB_
  clear HB_
  obtain ⟨A7_, c8_, hv_⟩ := Kd.R_slice ho0
  subst hv_
  have R6_ := Aside0.mk (r_btw (b0 := w.heap.size) ho0 (by have := HB0.out; exact this))
  clear ho0
  clear HB0
  go_wp2_with fail
  refine (eqIntS_alike _ _ _ _ _ _ (Kd.R_reads' R6_.out).2.2 (Kd.R_reads' R6_.out).2.1 (Kd.R_reads' R2_.out).2.2 (Kd.R_reads' R2_.out).2.1 HBD_r1.out).mono ?_
  rintro e w3_ ⟨rfl, hb⟩
  have HZ3 : Aside0 (w2_.heap.size ≤ w3_.heap.size) := ⟨hb.size⟩
  have R2__ := Aside0.mk (Kd.R_below R2_.out hb)
  clear R2_
  have R2_ := R2__
  clear R2__
  have R6__ := Aside0.mk (Kd.R_below R6_.out hb)
  clear R6_
  have R6_ := R6__
  clear R6__
  have HB_ := Aside0.mk (below_step HB.out hb)
  clear HB hb
  have HB := HB_
  clear HB_
  go_wp2_with fail
  refine (markIntS_own _ _ _ _ _ 101 _ _ HB.out rfl R6_.out HBD_r1.out (by omega) (by omega)).mono ?_
  rintro e w4_ ⟨rfl, hr, hB, hk⟩
  have HZ4 : Aside0 (w3_.heap.size ≤ w4_.heap.size) := ⟨hk.1⟩
  have R2__ := Aside0.mk (r_keep R2_.out hk (fun k h1 h2 => btw_ne h1 h2 (Nat.le_refl _)))
  clear R2_
  have R2_ := R2__
  clear R2__
  clear R6_
  clear HB hk
  have HB := Aside0.mk hB
  clear hB
  have M9_ := Aside0.mk hr
  clear hr
  go_wp2_with fail
  refine (heldIntS_own _ _ _ _ 101 _ _ M9_.out HBD_r1.out (by omega) (by omega)).mono ?_
  rintro e w5_ ⟨rfl, hd⟩
  have hb := hd.below
  clear hd
  have HZ5 : Aside0 (w4_.heap.size ≤ w5_.heap.size) := ⟨hb.size⟩
  have R2__ := Aside0.mk (Kd.R_below R2_.out hb)
  clear R2_
  have R2_ := R2__
  clear R2__
  have M9__ := Aside0.mk (Kd.R_below M9_.out hb)
  clear M9_
  have M9_ := M9__
  clear M9__
  have HB_ := Aside0.mk (below_step HB.out hb)
  clear HB hb
  have HB := HB_
  clear HB_
  go_wp2_with fail
  refine (impl_SlowestBreaks.calls a0 a1 a2 r1 r2 _  HI.out).mono ?_
  rintro e w6_ ⟨v10_, rfl, ho0, hb⟩
  have HB0 : Aside0 (w.heap.size ≤ w5_.heap.size) := ⟨HB.out.size⟩
  have HZ6 : Aside0 (w5_.heap.size ≤ w6_.heap.size) := ⟨hb.size⟩
  have R2__ := Aside0.mk (Kd.R_below R2_.out hb)
  clear R2_
  have R2_ := R2__
  clear R2__
  have M9__ := Aside0.mk (Kd.R_below M9_.out hb)
  clear M9_
  have M9_ := M9__
  clear M9__
  have HB_ := Aside0.mk (below_step HB.out hb)
  clear HB hb
  have HB := HB_
  clear HB_
  obtain ⟨A12_, c13_, hv_⟩ := Kd.R_slice ho0
  subst hv_
  have R11_ := Aside0.mk (r_btw (b0 := w.heap.size) ho0 (by have := HB0.out; exact this))
  clear ho0
  clear HB0
  go_wp2_with fail
  refine (eqIntS_alike _ _ _ _ _ _ (Kd.R_reads' R11_.out).2.2 (Kd.R_reads' R11_.out).2.1 (Kd.R_reads' R2_.out).2.2 (Kd.R_reads' R2_.out).2.1 HBD_r1.out).mono ?_
  rintro e w7_ ⟨rfl, hb⟩
  have HZ7 : Aside0 (w6_.heap.size ≤ w7_.heap.size) := ⟨hb.size⟩
  have R2__ := Aside0.mk (Kd.R_below R2_.out hb)
  clear R2_
  have R2_ := R2__
  clear R2__
  have M9__ := Aside0.mk (Kd.R_below M9_.out hb)
  clear M9_
  have M9_ := M9__
  clear M9__
  have R11__ := Aside0.mk (Kd.R_below R11_.out hb)
  clear R11_
  have R11_ := R11__
  clear R11__
  have HB_ := Aside0.mk (below_step HB.out hb)
  clear HB hb
  have HB := HB_
  clear HB_
  go_wp2_with fail
  refine (heldIntS_own _ _ _ _ 101 _ _ M9_.out HBD_r1.out (by omega) (by omega)).mono ?_
  rintro e w8_ ⟨rfl, hd⟩
  have hb := hd.below
  clear hd
  have HZ8 : Aside0 (w7_.heap.size ≤ w8_.heap.size) := ⟨hb.size⟩
  have R2__ := Aside0.mk (Kd.R_below R2_.out hb)
  clear R2_
  have R2_ := R2__
  clear R2__
  have M9__ := Aside0.mk (Kd.R_below M9_.out hb)
  clear M9_
  have M9_ := M9__
  clear M9__
  have R11__ := Aside0.mk (Kd.R_below R11_.out hb)
  clear R11_
  have R11_ := R11__
  clear R11__
  have HB_ := Aside0.mk (below_step HB.out hb)
  clear HB hb
  have HB := HB_
  clear HB_
  go_wp2
  go_ret
  exact ⟨rfl, HB.out⟩
set_option maxHeartbeats 4000000 in
set_option maxRecDepth 100000 in
theorem laws_FnExactSlowestBreaks.walk (P : laws_FnExactSlowestBreaks.Pure) (a0 : Int) (a1 : Int) (a2 : Int) (w : World) (w0 : (Lit.int .i64 a0).wf = true) (w1 : (Lit.int .i64 a1).wf = true) (w2 : (Lit.int .i64 a2).wf = true) :
    Calls Try.prog 5 #[.int .i64 a0, .int .i64 a1, .int .i64 a2] w fun e w' => e = .returned (.bool true) ∧ Below w.heap.size w w' := by
  obtain ⟨r1, r2, hs, hi, hb_r1⟩ := P a0 a1 a2 w0 w1 w2
  exact laws_FnExactSlowestBreaks.alike  a0 a1 a2 r1 r2 w  hs hi hb_r1


end Go.Proofs.Ytbiibhfcclfoiaa.PrintA
