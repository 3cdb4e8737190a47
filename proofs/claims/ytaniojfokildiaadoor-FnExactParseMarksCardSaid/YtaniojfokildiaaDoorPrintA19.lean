-- written by this session's own driver (wip/gen.py) with the kit's print and contracts of our own
import Derived.Test.YtaniojfokildiaaDoorPrintA0
import Derived.Test.YtaniojfokildiaaDoorPrintA1
import Derived.Test.YtaniojfokildiaaDoorPrintA7
import Derived.Test.YtaniojfokildiaaDoorPrintA10
import Derived.Test.YtaniojfokildiaaDoorPrintA17
import Derived.Test.YtaniojfokildiaaDoorPrintA18
namespace Go.Proofs.YtaniojfokildiaaDoor.PrintA
open Go.RowKit Go.Proofs.YtaniojfokildiaaDoorLib Go.Proofs.YtaniojfokildiaaDoorW.PrintWords Go.Proofs.YtaniojfokildiaaDoorW.PrintLast Go.Proofs.YtaniojfokildiaaDoorW.PrintMore
attribute [local go_sem] max2_int min2_int max_two min_two max_three min_three max_four min_four   -- for this text's walks alone
set_option linter.unusedVariables false
set_option linter.unusedSimpArgs false

/-! ### laws_FnExactParseMarks: function 3, a law -/
/-- THE ONE PURE STATEMENT of laws_FnExactParseMarks. -/
def laws_FnExactParseMarks.Pure : Prop := ∀ (a0 : ByteArray), a0.size ≤ 140737488351232 → a0.size ≤ 1000000 → ∃ (k1 : Nat) (k2 : Nat) (r1 : List Int) (r2 : Bool), spec_ParseMarks.f k1 a0 = some (r1, r2) ∧ impl_ParseMarks.f k2 a0 = some (r1, r2) ∧ r1.length ≤ 1000000
set_option maxHeartbeats 8000000 in
set_option maxRecDepth 100000 in
theorem laws_FnExactParseMarks.alike (k1 : Nat) (k2 : Nat) (a0 : ByteArray) (r1 : List Int) (r2 : Bool) (w : World)  (hl : a0.size ≤ 1000000) (hs : spec_ParseMarks.f k1 a0 = some (r1, r2)) (hi : impl_ParseMarks.f k2 a0 = some (r1, r2)) (hb_r1 : r1.length ≤ 1000000) (ht : TabsE w) :
    Calls Tryd.prog 3 #[.string a0] w fun e w' => e = .returned (.bool true) ∧ Below w.heap.size w w' := by
  have HBD_r1 := Aside0.mk hb_r1
  clear hb_r1
  have HS := Aside0.mk hs
  have HI := Aside0.mk hi
  clear hs hi
  have HT := Aside0.mk ht
  clear ht
  have HB := Aside0.mk (Below.refl w.heap.size w)
  go_enter Tryd.func3, Tryd.ntmps3
  go_wp2_with fail
  refine (spec_ParseMarks.calls k1 a0 r1 r2 _  HS.out).mono ?_
  rintro e w1_ ⟨v1_, rfl, ho0, hb⟩
  have HB0 : Aside0 (w.heap.size ≤ w.heap.size) := ⟨HB.out.size⟩
  have HZ1 : Aside0 (w.heap.size ≤ w1_.heap.size) := ⟨hb.size⟩
  have HB_ := Aside0.mk (below_step HB.out hb)
  clear HB hb
  have HB := HB_
  clear HB_
  obtain ⟨A3_, c4_, hv_⟩ := Kd.R_slice ho0
  subst hv_
  have R2_ := Aside0.mk (r_btw (b0 := w.heap.size) ho0 (by have := HB0.out; exact this))
  clear ho0
  clear HB0
  go_wp2_with fail
  refine (impl_ParseMarks.calls k2 a0 r1 r2 _  HI.out (HT.out.below HB.out)).mono ?_
  rintro e w2_ ⟨v5_, rfl, ho0, hb⟩
  have HB0 : Aside0 (w.heap.size ≤ w1_.heap.size) := ⟨HB.out.size⟩
  have HZ2 : Aside0 (w1_.heap.size ≤ w2_.heap.size) := ⟨hb.size⟩
  have R2__ := Aside0.mk (Kd.R_below R2_.out hb)
  clear R2_
  have R2_ := R2__
  clear R2__
  have HB_ := Aside0.mk (below_step HB.out hb)
  clear HB hb
  have HB := HB_
  clear HB_
  obtain ⟨A7_, c8_, hv_⟩ := Kd.R_slice ho0
  subst hv_
  have R6_ := Aside0.mk (r_btw (b0 := w.heap.size) ho0 (by have := HB0.out; exact this))
  clear ho0
  clear HB0
  go_wp2_with fail
  refine (eqIntS_alike _ _ _ _ _ _ (Kd.R_reads' R6_.out).2.2 (Kd.R_reads' R6_.out).2.1 (Kd.R_reads' R2_.out).2.2 (Kd.R_reads' R2_.out).2.1 HBD_r1.out).mono ?_
  rintro e w3_ ⟨rfl, hb⟩
  have HZ3 : Aside0 (w2_.heap.size ≤ w3_.heap.size) := ⟨hb.size⟩
  have R2__ := Aside0.mk (Kd.R_below R2_.out hb)
  clear R2_
  have R2_ := R2__
  clear R2__
  have R6__ := Aside0.mk (Kd.R_below R6_.out hb)
  clear R6_
  have R6_ := R6__
  clear R6__
  have HB_ := Aside0.mk (below_step HB.out hb)
  clear HB hb
  have HB := HB_
  clear HB_
  go_wp2_with fail
  refine (markIntS_own _ _ _ _ _ 101 _ _ HB.out rfl R6_.out HBD_r1.out (by omega) (by omega)).mono ?_
  rintro e w4_ ⟨rfl, hr, hB, hk⟩
  have HZ4 : Aside0 (w3_.heap.size ≤ w4_.heap.size) := ⟨hk.1⟩
  have R2__ := Aside0.mk (r_keep R2_.out hk (fun k h1 h2 => btw_ne h1 h2 (Nat.le_refl _)))
  clear R2_
  have R2_ := R2__
  clear R2__
  clear R6_
  clear HB hk
  have HB := Aside0.mk hB
  clear hB
  have M9_ := Aside0.mk hr
  clear hr
  go_wp2_with fail
  refine (heldIntS_own _ _ _ _ 101 _ _ M9_.out HBD_r1.out (by omega) (by omega)).mono ?_
  rintro e w5_ ⟨rfl, hd⟩
  have hb := hd.below
  clear hd
  have HZ5 : Aside0 (w4_.heap.size ≤ w5_.heap.size) := ⟨hb.size⟩
  have R2__ := Aside0.mk (Kd.R_below R2_.out hb)
  clear R2_
  have R2_ := R2__
  clear R2__
  have M9__ := Aside0.mk (Kd.R_below M9_.out hb)
  clear M9_
  have M9_ := M9__
  clear M9__
  have HB_ := Aside0.mk (below_step HB.out hb)
  clear HB hb
  have HB := HB_
  clear HB_
  go_wp2_with fail
  refine (impl_ParseMarks.calls k2 a0 r1 r2 _  HI.out (HT.out.below HB.out)).mono ?_
  rintro e w6_ ⟨v10_, rfl, ho0, hb⟩
  have HB0 : Aside0 (w.heap.size ≤ w5_.heap.size) := ⟨HB.out.size⟩
  have HZ6 : Aside0 (w5_.heap.size ≤ w6_.heap.size) := ⟨hb.size⟩
  have R2__ := Aside0.mk (Kd.R_below R2_.out hb)
  clear R2_
  have R2_ := R2__
  clear R2__
  have M9__ := Aside0.mk (Kd.R_below M9_.out hb)
  clear M9_
  have M9_ := M9__
  clear M9__
  have HB_ := Aside0.mk (below_step HB.out hb)
  clear HB hb
  have HB := HB_
  clear HB_
  obtain ⟨A12_, c13_, hv_⟩ := Kd.R_slice ho0
  subst hv_
  have R11_ := Aside0.mk (r_btw (b0 := w.heap.size) ho0 (by have := HB0.out; exact this))
  clear ho0
  clear HB0
  go_wp2_with fail
  refine (eqIntS_alike _ _ _ _ _ _ (Kd.R_reads' R11_.out).2.2 (Kd.R_reads' R11_.out).2.1 (Kd.R_reads' R2_.out).2.2 (Kd.R_reads' R2_.out).2.1 HBD_r1.out).mono ?_
  rintro e w7_ ⟨rfl, hb⟩
  have HZ7 : Aside0 (w6_.heap.size ≤ w7_.heap.size) := ⟨hb.size⟩
  have R2__ := Aside0.mk (Kd.R_below R2_.out hb)
  clear R2_
  have R2_ := R2__
  clear R2__
  have M9__ := Aside0.mk (Kd.R_below M9_.out hb)
  clear M9_
  have M9_ := M9__
  clear M9__
  have R11__ := Aside0.mk (Kd.R_below R11_.out hb)
  clear R11_
  have R11_ := R11__
  clear R11__
  have HB_ := Aside0.mk (below_step HB.out hb)
  clear HB hb
  have HB := HB_
  clear HB_
  go_wp2_with fail
  refine (heldIntS_own _ _ _ _ 101 _ _ M9_.out HBD_r1.out (by omega) (by omega)).mono ?_
  rintro e w8_ ⟨rfl, hd⟩
  have hb := hd.below
  clear hd
  have HZ8 : Aside0 (w7_.heap.size ≤ w8_.heap.size) := ⟨hb.size⟩
  have R2__ := Aside0.mk (Kd.R_below R2_.out hb)
  clear R2_
  have R2_ := R2__
  clear R2__
  have M9__ := Aside0.mk (Kd.R_below M9_.out hb)
  clear M9_
  have M9_ := M9__
  clear M9__
  have R11__ := Aside0.mk (Kd.R_below R11_.out hb)
  clear R11_
  have R11_ := R11__
  clear R11__
  have HB_ := Aside0.mk (below_step HB.out hb)
  clear HB hb
  have HB := HB_
  clear HB_
  go_wp2
  go_ret
  exact ⟨rfl, HB.out⟩
set_option maxHeartbeats 4000000 in
set_option maxRecDepth 100000 in
theorem laws_FnExactParseMarks.walk (P : laws_FnExactParseMarks.Pure) (a0 : ByteArray) (w : World) (w0 : a0.size ≤ 140737488351232) (ht : TabsE w) :
    Calls Tryd.prog 3 #[.string a0] w fun e w' => e = .returned (.bool true) ∧ Below w.heap.size w w' := by
  by_cases hl : a0.size ≤ 1000000
  · obtain ⟨k1, k2, r1, r2, hs, hi, hb_r1⟩ := P a0 w0 hl
    exact laws_FnExactParseMarks.alike k1 k2 a0 r1 r2 w  hl hs hi hb_r1 ht
  · skip
    go_enter Tryd.func3, Tryd.ntmps3
    go_wp2
    go_ret
    exact ⟨rfl, Below.refl _ _⟩


end Go.Proofs.YtaniojfokildiaaDoor.PrintA
