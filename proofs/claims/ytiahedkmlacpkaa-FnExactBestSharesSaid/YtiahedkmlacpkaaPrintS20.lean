-- written by this session's own driver (wip/gen.py) with the kit's print and contracts of our own
import Derived.Test.YtiahedkmlacpkaaPrintS0
import Derived.Test.YtiahedkmlacpkaaPrintS1
import Derived.Test.YtiahedkmlacpkaaPrintS2
import Derived.Test.YtiahedkmlacpkaaPrintS3
import Derived.Test.YtiahedkmlacpkaaPrintS5
import Derived.Test.YtiahedkmlacpkaaPrintS13
import Derived.Test.YtiahedkmlacpkaaPrintS19
namespace Go.Proofs.Ytiahedkmlacpkaa.PrintS
open Go.RowKit Go.Proofs.YtiahedkmlacpkaaLib Go.Proofs.YtiahedkmlacpkaaW.PrintWords Go.Proofs.YtiahedkmlacpkaaW.PrintLast Go.Proofs.YtiahedkmlacpkaaW.PrintMore
attribute [local go_sem] max2_int min2_int max_two min_two max_three min_three max_four min_four   -- for this text's walks alone
set_option linter.unusedVariables false
set_option linter.unusedSimpArgs false

/-! ### laws_FnExactBestShares: function 8, a law -/
/-- THE ONE PURE STATEMENT of laws_FnExactBestShares. -/
def laws_FnExactBestShares.Pure : Prop := ∀ (a0 : Int) (l1 : List Int), (Lit.int .i64 a0).wf = true → (∀ x ∈ l1, (Lit.int .i64 x).wf = true) → l1.length ≤ 1000000 → ∃ (k1 : Nat) (r1 : List Int) (r2 : Int) (r3 : Bool), spec_BestShares.f k1 a0 l1 = some (r1, r2, r3) ∧ impl_BestShares.f a0 l1 = some (r1, r2, r3) ∧ r1.length ≤ 1000000
set_option maxHeartbeats 8000000 in
set_option maxRecDepth 100000 in
theorem laws_FnExactBestShares.alike (k1 : Nat) (a0 : Int) (A1 : Option Addr) (c1 : Nat) (l1 : List Int) (r1 : List Int) (r2 : Int) (r3 : Bool) (w : World) (hr1 : Kd.C (Kd.int .i64) w A1 l1.length l1) (hc1 : l1.length ≤ c1) (hl : l1.length ≤ 1000000) (hs : spec_BestShares.f k1 a0 l1 = some (r1, r2, r3)) (hi : impl_BestShares.f a0 l1 = some (r1, r2, r3)) (hb_r1 : r1.length ≤ 1000000) :
    Calls Try.prog 8 #[.int .i64 a0, .slice A1 l1.length c1] w fun e w' => e = .returned (.bool true) ∧ Below w.heap.size w w' := by
  have HR1 := Aside0.mk hr1
  have HC1 := Aside0.mk hc1
  clear hr1 hc1
  have HL1 : Aside0 (l1.length ≤ 1000000) := ⟨by omega⟩
  have HBD_r1 := Aside0.mk hb_r1
  clear hb_r1
  have HS := Aside0.mk hs
  have HI := Aside0.mk hi
  clear hs hi
  have HB := Aside0.mk (Below.refl w.heap.size w)
  go_enter Try.func8, Try.ntmps8
  go_wp2_with fail
  refine (toIntS_full _ c1 l1 _ (Kd.C_below HR1.out HB.out) HL1.out).mono ?_
  rintro e w1_ ⟨g3_, c4_, rfl, hf, hb⟩
  have HB0 : Aside0 (w.heap.size ≤ w.heap.size) := ⟨HB.out.size⟩
  have HZ1 : Aside0 (w.heap.size ≤ w1_.heap.size) := ⟨hb.size⟩
  have HB_ := Aside0.mk (below_step HB.out hb)
  clear HB hb
  have HB := HB_
  clear HB_
  have F2_ := Aside0.mk (show FullG w1_ w.heap.size (Btw w.heap.size w1_.heap.size) _ _ _ from r_btw hf (by have := HB0.out; exact this))
  clear hf HB0
  go_wp2_with fail
  refine (spec_BestShares.calls k1 a0 (some ⟨g3_, 0, none⟩) c4_ l1 r1 r2 r3 _ (FullG.reads F2_.out).2 (FullG.reads F2_.out).1 HS.out).mono ?_
  rintro e w2_ ⟨v5_, rfl, ho0, hb⟩
  have HB0 : Aside0 (w.heap.size ≤ w1_.heap.size) := ⟨HB.out.size⟩
  have HZ2 : Aside0 (w1_.heap.size ≤ w2_.heap.size) := ⟨hb.size⟩
  have F2__ := Aside0.mk (FullG.below F2_.out hb)
  clear F2_
  have F2_ := F2__
  clear F2__
  have HB_ := Aside0.mk (below_step HB.out hb)
  clear HB hb
  have HB := HB_
  clear HB_
  obtain ⟨A7_, c8_, hv_⟩ := Kd.R_slice ho0
  subst hv_
  have R6_ := Aside0.mk (r_btw (b0 := w.heap.size) ho0 (by have := HB0.out; exact this))
  clear ho0
  clear HB0
  go_wp2_with fail
  refine (toIntS_full _ c1 l1 _ (Kd.C_below HR1.out HB.out) HL1.out).mono ?_
  rintro e w3_ ⟨g10_, c11_, rfl, hf, hb⟩
  have HB0 : Aside0 (w.heap.size ≤ w2_.heap.size) := ⟨HB.out.size⟩
  have HZ3 : Aside0 (w2_.heap.size ≤ w3_.heap.size) := ⟨hb.size⟩
  have F2__ := Aside0.mk (FullG.below F2_.out hb)
  clear F2_
  have F2_ := F2__
  clear F2__
  have R6__ := Aside0.mk (Kd.R_below R6_.out hb)
  clear R6_
  have R6_ := R6__
  clear R6__
  have HB_ := Aside0.mk (below_step HB.out hb)
  clear HB hb
  have HB := HB_
  clear HB_
  have F9_ := Aside0.mk (show FullG w3_ w.heap.size (Btw w2_.heap.size w3_.heap.size) _ _ _ from r_btw hf (by have := HB0.out; exact this))
  clear hf HB0
  go_wp2_with fail
  refine (impl_BestShares.calls a0 (some ⟨g10_, 0, none⟩) c11_ l1 r1 r2 r3 _ (FullG.reads F9_.out).2 (FullG.reads F9_.out).1 HI.out).mono ?_
  rintro e w4_ ⟨v12_, rfl, ho0, hb⟩
  have HB0 : Aside0 (w.heap.size ≤ w3_.heap.size) := ⟨HB.out.size⟩
  have HZ4 : Aside0 (w3_.heap.size ≤ w4_.heap.size) := ⟨hb.size⟩
  have F2__ := Aside0.mk (FullG.below F2_.out hb)
  clear F2_
  have F2_ := F2__
  clear F2__
  have R6__ := Aside0.mk (Kd.R_below R6_.out hb)
  clear R6_
  have R6_ := R6__
  clear R6__
  have F9__ := Aside0.mk (FullG.below F9_.out hb)
  clear F9_
  have F9_ := F9__
  clear F9__
  have HB_ := Aside0.mk (below_step HB.out hb)
  clear HB hb
  have HB := HB_
  clear HB_
  obtain ⟨A14_, c15_, hv_⟩ := Kd.R_slice ho0
  subst hv_
  have R13_ := Aside0.mk (r_btw (b0 := w.heap.size) ho0 (by have := HB0.out; exact this))
  clear ho0
  clear HB0
  go_wp2_with fail
  refine (eqIntS_alike _ _ _ _ _ _ (Kd.R_reads' R13_.out).2.2 (Kd.R_reads' R13_.out).2.1 (Kd.R_reads' R6_.out).2.2 (Kd.R_reads' R6_.out).2.1 HBD_r1.out).mono ?_
  rintro e w5_ ⟨rfl, hb⟩
  have HZ5 : Aside0 (w4_.heap.size ≤ w5_.heap.size) := ⟨hb.size⟩
  have F2__ := Aside0.mk (FullG.below F2_.out hb)
  clear F2_
  have F2_ := F2__
  clear F2__
  have R6__ := Aside0.mk (Kd.R_below R6_.out hb)
  clear R6_
  have R6_ := R6__
  clear R6__
  have F9__ := Aside0.mk (FullG.below F9_.out hb)
  clear F9_
  have F9_ := F9__
  clear F9__
  have R13__ := Aside0.mk (Kd.R_below R13_.out hb)
  clear R13_
  have R13_ := R13__
  clear R13__
  have HB_ := Aside0.mk (below_step HB.out hb)
  clear HB hb
  have HB := HB_
  clear HB_
  go_wp2_with fail
  refine (toIntS_full _ c1 l1 _ (Kd.C_below HR1.out HB.out) HL1.out).mono ?_
  rintro e w6_ ⟨g18_, c19_, rfl, hf, hb⟩
  have HB0 : Aside0 (w.heap.size ≤ w5_.heap.size) := ⟨HB.out.size⟩
  have HZ6 : Aside0 (w5_.heap.size ≤ w6_.heap.size) := ⟨hb.size⟩
  have F2__ := Aside0.mk (FullG.below F2_.out hb)
  clear F2_
  have F2_ := F2__
  clear F2__
  have R6__ := Aside0.mk (Kd.R_below R6_.out hb)
  clear R6_
  have R6_ := R6__
  clear R6__
  have F9__ := Aside0.mk (FullG.below F9_.out hb)
  clear F9_
  have F9_ := F9__
  clear F9__
  have R13__ := Aside0.mk (Kd.R_below R13_.out hb)
  clear R13_
  have R13_ := R13__
  clear R13__
  have HB_ := Aside0.mk (below_step HB.out hb)
  clear HB hb
  have HB := HB_
  clear HB_
  have F17_ := Aside0.mk (show FullG w6_ w.heap.size (Btw w5_.heap.size w6_.heap.size) _ _ _ from r_btw hf (by have := HB0.out; exact this))
  clear hf HB0
  go_wp2_with fail
  refine (intactIntS_full _ _ _ _ _ _ _ _ _ _ F9_.out F17_.out HL1.out).mono ?_
  rintro e w7_ ⟨rfl, hd⟩
  have hb := hd.below
  clear hd
  have HZ7 : Aside0 (w6_.heap.size ≤ w7_.heap.size) := ⟨hb.size⟩
  have F2__ := Aside0.mk (FullG.below F2_.out hb)
  clear F2_
  have F2_ := F2__
  clear F2__
  have R6__ := Aside0.mk (Kd.R_below R6_.out hb)
  clear R6_
  have R6_ := R6__
  clear R6__
  have F9__ := Aside0.mk (FullG.below F9_.out hb)
  clear F9_
  have F9_ := F9__
  clear F9__
  have R13__ := Aside0.mk (Kd.R_below R13_.out hb)
  clear R13_
  have R13_ := R13__
  clear R13__
  have F17__ := Aside0.mk (FullG.below F17_.out hb)
  clear F17_
  have F17_ := F17__
  clear F17__
  have HB_ := Aside0.mk (below_step HB.out hb)
  clear HB hb
  have HB := HB_
  clear HB_
  go_wp2_with fail
  refine (markIntS_own _ _ _ _ _ 101 _ _ HB.out rfl F9_.out.row HL1.out (by omega) (by omega)).mono ?_
  rintro e w8_ ⟨rfl, hr, hB, hk⟩
  have HZ8 : Aside0 (w7_.heap.size ≤ w8_.heap.size) := ⟨hk.1⟩
  have F2__ := Aside0.mk (FullG.keep F2_.out hk (fun k h1 h2 => btw_ne h1 h2 HZ2.out))
  clear F2_
  have F2_ := F2__
  clear F2__
  have R6__ := Aside0.mk (r_keep R6_.out hk (fun k h1 h2 => btw_ne h1 h2 (Nat.le_refl _)))
  clear R6_
  have R6_ := R6__
  clear R6__
  clear F9_
  have R13__ := Aside0.mk (r_keep R13_.out hk (fun k h1 h2 => btw_ne h2 h1 (Nat.le_refl _)))
  clear R13_
  have R13_ := R13__
  clear R13__
  have F17__ := Aside0.mk (FullG.keep F17_.out hk (fun k h1 h2 => btw_ne h2 h1 (Nat.le_trans HZ4.out HZ5.out)))
  clear F17_
  have F17_ := F17__
  clear F17__
  clear HB hk
  have HB := Aside0.mk hB
  clear hB
  have M20_ := Aside0.mk hr
  clear hr
  go_wp2_with fail
  refine (eqIntS_alike _ _ _ _ _ _ (Kd.R_reads' R13_.out).2.2 (Kd.R_reads' R13_.out).2.1 (Kd.R_reads' R6_.out).2.2 (Kd.R_reads' R6_.out).2.1 HBD_r1.out).mono ?_
  rintro e w9_ ⟨rfl, hb⟩
  have HZ9 : Aside0 (w8_.heap.size ≤ w9_.heap.size) := ⟨hb.size⟩
  have F2__ := Aside0.mk (FullG.below F2_.out hb)
  clear F2_
  have F2_ := F2__
  clear F2__
  have R6__ := Aside0.mk (Kd.R_below R6_.out hb)
  clear R6_
  have R6_ := R6__
  clear R6__
  have M20__ := Aside0.mk (Kd.R_below M20_.out hb)
  clear M20_
  have M20_ := M20__
  clear M20__
  have R13__ := Aside0.mk (Kd.R_below R13_.out hb)
  clear R13_
  have R13_ := R13__
  clear R13__
  have F17__ := Aside0.mk (FullG.below F17_.out hb)
  clear F17_
  have F17_ := F17__
  clear F17__
  have HB_ := Aside0.mk (below_step HB.out hb)
  clear HB hb
  have HB := HB_
  clear HB_
  go_wp2_with fail
  refine (markIntS_own _ _ _ _ _ 101 _ _ HB.out rfl R13_.out HBD_r1.out (by omega) (by omega)).mono ?_
  rintro e w10_ ⟨rfl, hr, hB, hk⟩
  have HZ10 : Aside0 (w9_.heap.size ≤ w10_.heap.size) := ⟨hk.1⟩
  have F2__ := Aside0.mk (FullG.keep F2_.out hk (fun k h1 h2 => btw_ne h1 h2 (Nat.le_trans HZ2.out HZ3.out)))
  clear F2_
  have F2_ := F2__
  clear F2__
  have R6__ := Aside0.mk (r_keep R6_.out hk (fun k h1 h2 => btw_ne h1 h2 HZ3.out))
  clear R6_
  have R6_ := R6__
  clear R6__
  have M20__ := Aside0.mk (r_keep M20_.out hk (fun k h1 h2 => btw_ne h1 h2 (Nat.le_refl _)))
  clear M20_
  have M20_ := M20__
  clear M20__
  clear R13_
  have F17__ := Aside0.mk (FullG.keep F17_.out hk (fun k h1 h2 => btw_ne h2 h1 HZ5.out))
  clear F17_
  have F17_ := F17__
  clear F17__
  clear HB hk
  have HB := Aside0.mk hB
  clear hB
  have M21_ := Aside0.mk hr
  clear hr
  go_wp2_with fail
  refine (heldIntS_own _ _ _ _ 101 _ _ M21_.out HBD_r1.out (by omega) (by omega)).mono ?_
  rintro e w11_ ⟨rfl, hd⟩
  have hb := hd.below
  clear hd
  have HZ11 : Aside0 (w10_.heap.size ≤ w11_.heap.size) := ⟨hb.size⟩
  have F2__ := Aside0.mk (FullG.below F2_.out hb)
  clear F2_
  have F2_ := F2__
  clear F2__
  have R6__ := Aside0.mk (Kd.R_below R6_.out hb)
  clear R6_
  have R6_ := R6__
  clear R6__
  have M20__ := Aside0.mk (Kd.R_below M20_.out hb)
  clear M20_
  have M20_ := M20__
  clear M20__
  have M21__ := Aside0.mk (Kd.R_below M21_.out hb)
  clear M21_
  have M21_ := M21__
  clear M21__
  have F17__ := Aside0.mk (FullG.below F17_.out hb)
  clear F17_
  have F17_ := F17__
  clear F17__
  have HB_ := Aside0.mk (below_step HB.out hb)
  clear HB hb
  have HB := HB_
  clear HB_
  go_wp2_with fail
  refine (toIntS_bare _ c1 l1 _ (Kd.C_below HR1.out HB.out) HL1.out).mono ?_
  rintro e w12_ ⟨A26_, c25_, rfl, hf, hb⟩
  have HB0 : Aside0 (w.heap.size ≤ w11_.heap.size) := ⟨HB.out.size⟩
  have HZ12 : Aside0 (w11_.heap.size ≤ w12_.heap.size) := ⟨hb.size⟩
  have F2__ := Aside0.mk (FullG.below F2_.out hb)
  clear F2_
  have F2_ := F2__
  clear F2__
  have R6__ := Aside0.mk (Kd.R_below R6_.out hb)
  clear R6_
  have R6_ := R6__
  clear R6__
  have M20__ := Aside0.mk (Kd.R_below M20_.out hb)
  clear M20_
  have M20_ := M20__
  clear M20__
  have M21__ := Aside0.mk (Kd.R_below M21_.out hb)
  clear M21_
  have M21_ := M21__
  clear M21__
  have F17__ := Aside0.mk (FullG.below F17_.out hb)
  clear F17_
  have F17_ := F17__
  clear F17__
  have HB_ := Aside0.mk (below_step HB.out hb)
  clear HB hb
  have HB := HB_
  clear HB_
  have F23_ := Aside0.mk (r_btw (b0 := w.heap.size) hf (by have := HB0.out; exact this))
  clear hf HB0
  go_wp2_with fail
  refine (impl_BestShares.calls a0 A26_ c25_ l1 r1 r2 r3 _ (Kd.R_reads' F23_.out).2.2 (Kd.R_reads' F23_.out).2.1 HI.out).mono ?_
  rintro e w13_ ⟨v27_, rfl, ho0, hb⟩
  have HB0 : Aside0 (w.heap.size ≤ w12_.heap.size) := ⟨HB.out.size⟩
  have HZ13 : Aside0 (w12_.heap.size ≤ w13_.heap.size) := ⟨hb.size⟩
  have F2__ := Aside0.mk (FullG.below F2_.out hb)
  clear F2_
  have F2_ := F2__
  clear F2__
  have R6__ := Aside0.mk (Kd.R_below R6_.out hb)
  clear R6_
  have R6_ := R6__
  clear R6__
  have M20__ := Aside0.mk (Kd.R_below M20_.out hb)
  clear M20_
  have M20_ := M20__
  clear M20__
  have M21__ := Aside0.mk (Kd.R_below M21_.out hb)
  clear M21_
  have M21_ := M21__
  clear M21__
  have F17__ := Aside0.mk (FullG.below F17_.out hb)
  clear F17_
  have F17_ := F17__
  clear F17__
  have F23__ := Aside0.mk (Kd.R_below F23_.out hb)
  clear F23_
  have F23_ := F23__
  clear F23__
  have HB_ := Aside0.mk (below_step HB.out hb)
  clear HB hb
  have HB := HB_
  clear HB_
  obtain ⟨A29_, c30_, hv_⟩ := Kd.R_slice ho0
  subst hv_
  have R28_ := Aside0.mk (r_btw (b0 := w.heap.size) ho0 (by have := HB0.out; exact this))
  clear ho0
  clear HB0
  go_wp2_with fail
  refine (eqIntS_alike _ _ _ _ _ _ (Kd.R_reads' R28_.out).2.2 (Kd.R_reads' R28_.out).2.1 (Kd.R_reads' R6_.out).2.2 (Kd.R_reads' R6_.out).2.1 HBD_r1.out).mono ?_
  rintro e w14_ ⟨rfl, hb⟩
  have HZ14 : Aside0 (w13_.heap.size ≤ w14_.heap.size) := ⟨hb.size⟩
  have F2__ := Aside0.mk (FullG.below F2_.out hb)
  clear F2_
  have F2_ := F2__
  clear F2__
  have R6__ := Aside0.mk (Kd.R_below R6_.out hb)
  clear R6_
  have R6_ := R6__
  clear R6__
  have M20__ := Aside0.mk (Kd.R_below M20_.out hb)
  clear M20_
  have M20_ := M20__
  clear M20__
  have M21__ := Aside0.mk (Kd.R_below M21_.out hb)
  clear M21_
  have M21_ := M21__
  clear M21__
  have F17__ := Aside0.mk (FullG.below F17_.out hb)
  clear F17_
  have F17_ := F17__
  clear F17__
  have F23__ := Aside0.mk (Kd.R_below F23_.out hb)
  clear F23_
  have F23_ := F23__
  clear F23__
  have R28__ := Aside0.mk (Kd.R_below R28_.out hb)
  clear R28_
  have R28_ := R28__
  clear R28__
  have HB_ := Aside0.mk (below_step HB.out hb)
  clear HB hb
  have HB := HB_
  clear HB_
  go_wp2_with fail
  refine (heldIntS_own _ _ _ _ 101 _ _ M21_.out HBD_r1.out (by omega) (by omega)).mono ?_
  rintro e w15_ ⟨rfl, hd⟩
  have hb := hd.below
  clear hd
  have HZ15 : Aside0 (w14_.heap.size ≤ w15_.heap.size) := ⟨hb.size⟩
  have F2__ := Aside0.mk (FullG.below F2_.out hb)
  clear F2_
  have F2_ := F2__
  clear F2__
  have R6__ := Aside0.mk (Kd.R_below R6_.out hb)
  clear R6_
  have R6_ := R6__
  clear R6__
  have M20__ := Aside0.mk (Kd.R_below M20_.out hb)
  clear M20_
  have M20_ := M20__
  clear M20__
  have M21__ := Aside0.mk (Kd.R_below M21_.out hb)
  clear M21_
  have M21_ := M21__
  clear M21__
  have F17__ := Aside0.mk (FullG.below F17_.out hb)
  clear F17_
  have F17_ := F17__
  clear F17__
  have F23__ := Aside0.mk (Kd.R_below F23_.out hb)
  clear F23_
  have F23_ := F23__
  clear F23__
  have R28__ := Aside0.mk (Kd.R_below R28_.out hb)
  clear R28_
  have R28_ := R28__
  clear R28__
  have HB_ := Aside0.mk (below_step HB.out hb)
  clear HB hb
  have HB := HB_
  clear HB_
  go_wp2
  go_ret
  exact ⟨rfl, HB.out⟩
set_option maxHeartbeats 4000000 in
set_option maxRecDepth 100000 in
theorem laws_FnExactBestShares.walk (P : laws_FnExactBestShares.Pure) (a0 : Int) (a1 : Option Addr) (len1 cap1 : Nat) (z1 : List Int) (w : World) (w0 : (Lit.int .i64 a0).wf = true) (w1 : (a1 = none ∧ len1 = 0 ∧ cap1 = 0 ∧ z1 = []) ∨ ∃ x, a1 = some x ∧ len1 ≤ cap1 ∧ cap1 ≤ maxLen ∧ z1.length = cap1 ∧ (∀ i, i < z1.length → w.cell? (x.add i) = some (.int .i64 (z1.getD i 0))) ∧ ∀ n ∈ z1, (Lit.int .i64 n).wf = true) (y1 : len1 * 8 ≤ 140737488351232) :
    Calls Try.prog 8 #[.int .i64 a0, .slice a1 len1 cap1] w fun e w' => e = .returned (.bool true) ∧ Below w.heap.size w w' := by
  obtain ⟨l1, rfl, hr1, hm1, hw1, hc1⟩ := ReadsInt.ofRowC w1
  by_cases hl : l1.length ≤ 1000000
  · obtain ⟨k1, r1, r2, r3, hs, hi, hb_r1⟩ := P a0 l1 w0 hw1 hl
    exact laws_FnExactBestShares.alike k1  a0 _ _ l1 r1 r2 r3 w (Kd.C_of_reads (d := (0 : Int)) (h1 := fun _ => rfl) hr1) hc1 hl hs hi hb_r1
  · clear hr1 hc1
    go_enter Try.func8, Try.ntmps8
    go_wp2
    go_ret
    exact ⟨rfl, Below.refl _ _⟩


end Go.Proofs.Ytiahedkmlacpkaa.PrintS
