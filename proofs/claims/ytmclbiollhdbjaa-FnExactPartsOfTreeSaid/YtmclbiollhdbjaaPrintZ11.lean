-- written by this session's own driver (wip/gen.py) with the kit's print and contracts of our own
import Derived.Test.YtmclbiollhdbjaaPrintZ0
import Derived.Test.YtmclbiollhdbjaaPrintZ1
import Derived.Test.YtmclbiollhdbjaaPrintZ3
import Derived.Test.YtmclbiollhdbjaaPrintZ7
import Derived.Test.YtmclbiollhdbjaaPrintZ9
import Derived.Test.YtmclbiollhdbjaaPrintZ10
namespace Go.Proofs.Ytmclbiollhdbjaa.PrintZ
open Go.RowKit Go.Proofs.YtmclbiollhdbjaaLib Go.Proofs.YtmclbiollhdbjaaW.PrintWords Go.Proofs.YtmclbiollhdbjaaW.PrintLast Go.Proofs.YtmclbiollhdbjaaW.PrintMore
attribute [local go_sem] max2_int min2_int max_two min_two max_three min_three max_four min_four   -- for this text's walks alone
set_option linter.unusedVariables false
set_option linter.unusedSimpArgs false

/-! ### laws_FnExactPartsOfTree: function 5, a law -/
/-- THE ONE PURE STATEMENT of laws_FnExactPartsOfTree. -/
def laws_FnExactPartsOfTree.Pure : Prop := ∀ (l0 : List Int), (∀ x ∈ l0, (Lit.int .i64 x).wf = true) → l0.length ≤ 1000000 → ∃ (k1 : Nat) (k2 : Nat) (r1 : List Int) (r2 : List Int) (r3 : Bool), spec_PartsOfTree.f k1 l0 = some (r1, r2, r3) ∧ impl_PartsOfTree.f k2 l0 = some (r1, r2, r3) ∧ r1.length ≤ 1000000 ∧ r2.length ≤ 1000000
set_option maxHeartbeats 8000000 in
set_option maxRecDepth 100000 in
theorem laws_FnExactPartsOfTree.alike (k1 : Nat) (k2 : Nat) (A0 : Option Addr) (c0 : Nat) (l0 : List Int) (r1 : List Int) (r2 : List Int) (r3 : Bool) (w : World) (hr0 : Kd.C (Kd.int .i64) w A0 l0.length l0) (hc0 : l0.length ≤ c0) (hl : l0.length ≤ 1000000) (hs : spec_PartsOfTree.f k1 l0 = some (r1, r2, r3)) (hi : impl_PartsOfTree.f k2 l0 = some (r1, r2, r3)) (hb_r1 : r1.length ≤ 1000000) (hb_r2 : r2.length ≤ 1000000) :
    Calls Try.prog 5 #[.slice A0 l0.length c0] w fun e w' => e = .returned (.bool true) ∧ Below w.heap.size w w' := by
  have HR0 := Aside0.mk hr0
  have HC0 := Aside0.mk hc0
  clear hr0 hc0
  have HL0 : Aside0 (l0.length ≤ 1000000) := ⟨by omega⟩
  have HBD_r1 := Aside0.mk hb_r1
  clear hb_r1
  have HBD_r2 := Aside0.mk hb_r2
  clear hb_r2
  have HS := Aside0.mk hs
  have HI := Aside0.mk hi
  clear hs hi
  have HB := Aside0.mk (Below.refl w.heap.size w)
  go_enter Try.func5, Try.ntmps5
  go_wp2_with fail
  refine (toIntS_full _ c0 l0 _ (Kd.C_below HR0.out HB.out) HL0.out).mono ?_
  rintro e w1_ ⟨g3_, c4_, rfl, hf, hb⟩
  have HB0 : Aside0 (w.heap.size ≤ w.heap.size) := ⟨HB.out.size⟩
  have HZ1 : Aside0 (w.heap.size ≤ w1_.heap.size) := ⟨hb.size⟩
  have HB_ := Aside0.mk (below_step HB.out hb)
  clear HB hb
  have HB := HB_
  clear HB_
  have F2_ := Aside0.mk (show FullG w1_ w.heap.size (Btw w.heap.size w1_.heap.size) _ _ _ from r_btw hf (by have := HB0.out; exact this))
  clear hf HB0
  go_wp2_with fail
  refine (spec_PartsOfTree.calls k1 (some ⟨g3_, 0, none⟩) c4_ l0 r1 r2 r3 _ (FullG.reads F2_.out).2 (FullG.reads F2_.out).1 HS.out).mono ?_
  rintro e w2_ ⟨v5_, v6_, rfl, ho0, ho1, hb⟩
  have HB0 : Aside0 (w.heap.size ≤ w1_.heap.size) := ⟨HB.out.size⟩
  have HZ2 : Aside0 (w1_.heap.size ≤ w2_.heap.size) := ⟨hb.size⟩
  have F2__ := Aside0.mk (FullG.below F2_.out hb)
  clear F2_
  have F2_ := F2__
  clear F2__
  have HB_ := Aside0.mk (below_step HB.out hb)
  clear HB hb
  have HB := HB_
  clear HB_
  have NE7_ := Aside0.mk (fun (k : Nat) (h0 : (v5_ : Value).ownBlock = some k) (h1 : (v6_ : Value).ownBlock = some k) => ho0.1 k h0 h1.symm)
  obtain ⟨A9_, c10_, hv_⟩ := Kd.R_slice ho0
  subst hv_
  have R8_ := Aside0.mk (r_own (b0 := w.heap.size) ho0 (by have := HB0.out; exact this))
  clear ho0
  obtain ⟨A12_, c13_, hv_⟩ := Kd.R_slice ho1
  subst hv_
  have R11_ := Aside0.mk (r_own (b0 := w.heap.size) ho1 (by have := HB0.out; exact this))
  clear ho1
  clear HB0
  go_wp2_with fail
  refine (toIntS_full _ c0 l0 _ (Kd.C_below HR0.out HB.out) HL0.out).mono ?_
  rintro e w3_ ⟨g15_, c16_, rfl, hf, hb⟩
  have HB0 : Aside0 (w.heap.size ≤ w2_.heap.size) := ⟨HB.out.size⟩
  have HZ3 : Aside0 (w2_.heap.size ≤ w3_.heap.size) := ⟨hb.size⟩
  have F2__ := Aside0.mk (FullG.below F2_.out hb)
  clear F2_
  have F2_ := F2__
  clear F2__
  have R8__ := Aside0.mk (Kd.R_below R8_.out hb)
  clear R8_
  have R8_ := R8__
  clear R8__
  have R11__ := Aside0.mk (Kd.R_below R11_.out hb)
  clear R11_
  have R11_ := R11__
  clear R11__
  have HB_ := Aside0.mk (below_step HB.out hb)
  clear HB hb
  have HB := HB_
  clear HB_
  have F14_ := Aside0.mk (show FullG w3_ w.heap.size (Btw w2_.heap.size w3_.heap.size) _ _ _ from r_btw hf (by have := HB0.out; exact this))
  clear hf HB0
  go_wp2_with fail
  refine (impl_PartsOfTree.calls k2 (some ⟨g15_, 0, none⟩) c16_ l0 r1 r2 r3 _ (FullG.reads F14_.out).2 (FullG.reads F14_.out).1 HI.out).mono ?_
  rintro e w4_ ⟨v17_, v18_, rfl, ho0, ho1, hb⟩
  have HB0 : Aside0 (w.heap.size ≤ w3_.heap.size) := ⟨HB.out.size⟩
  have HZ4 : Aside0 (w3_.heap.size ≤ w4_.heap.size) := ⟨hb.size⟩
  have F2__ := Aside0.mk (FullG.below F2_.out hb)
  clear F2_
  have F2_ := F2__
  clear F2__
  have R8__ := Aside0.mk (Kd.R_below R8_.out hb)
  clear R8_
  have R8_ := R8__
  clear R8__
  have R11__ := Aside0.mk (Kd.R_below R11_.out hb)
  clear R11_
  have R11_ := R11__
  clear R11__
  have F14__ := Aside0.mk (FullG.below F14_.out hb)
  clear F14_
  have F14_ := F14__
  clear F14__
  have HB_ := Aside0.mk (below_step HB.out hb)
  clear HB hb
  have HB := HB_
  clear HB_
  have NE19_ := Aside0.mk (fun (k : Nat) (h0 : (v17_ : Value).ownBlock = some k) (h1 : (v18_ : Value).ownBlock = some k) => ho0.1 k h0 h1.symm)
  obtain ⟨A21_, c22_, hv_⟩ := Kd.R_slice ho0
  subst hv_
  have R20_ := Aside0.mk (r_own (b0 := w.heap.size) ho0 (by have := HB0.out; exact this))
  clear ho0
  obtain ⟨A24_, c25_, hv_⟩ := Kd.R_slice ho1
  subst hv_
  have R23_ := Aside0.mk (r_own (b0 := w.heap.size) ho1 (by have := HB0.out; exact this))
  clear ho1
  clear HB0
  go_wp2_with fail
  refine (eqIntS_alike _ _ _ _ _ _ (Kd.R_reads' R20_.out).2.2 (Kd.R_reads' R20_.out).2.1 (Kd.R_reads' R8_.out).2.2 (Kd.R_reads' R8_.out).2.1 HBD_r1.out).mono ?_
  rintro e w5_ ⟨rfl, hb⟩
  have HZ5 : Aside0 (w4_.heap.size ≤ w5_.heap.size) := ⟨hb.size⟩
  have F2__ := Aside0.mk (FullG.below F2_.out hb)
  clear F2_
  have F2_ := F2__
  clear F2__
  have R8__ := Aside0.mk (Kd.R_below R8_.out hb)
  clear R8_
  have R8_ := R8__
  clear R8__
  have R11__ := Aside0.mk (Kd.R_below R11_.out hb)
  clear R11_
  have R11_ := R11__
  clear R11__
  have F14__ := Aside0.mk (FullG.below F14_.out hb)
  clear F14_
  have F14_ := F14__
  clear F14__
  have R20__ := Aside0.mk (Kd.R_below R20_.out hb)
  clear R20_
  have R20_ := R20__
  clear R20__
  have R23__ := Aside0.mk (Kd.R_below R23_.out hb)
  clear R23_
  have R23_ := R23__
  clear R23__
  have HB_ := Aside0.mk (below_step HB.out hb)
  clear HB hb
  have HB := HB_
  clear HB_
  go_wp2_with fail
  refine (eqIntS_alike _ _ _ _ _ _ (Kd.R_reads' R23_.out).2.2 (Kd.R_reads' R23_.out).2.1 (Kd.R_reads' R11_.out).2.2 (Kd.R_reads' R11_.out).2.1 HBD_r2.out).mono ?_
  rintro e w6_ ⟨rfl, hb⟩
  have HZ6 : Aside0 (w5_.heap.size ≤ w6_.heap.size) := ⟨hb.size⟩
  have F2__ := Aside0.mk (FullG.below F2_.out hb)
  clear F2_
  have F2_ := F2__
  clear F2__
  have R8__ := Aside0.mk (Kd.R_below R8_.out hb)
  clear R8_
  have R8_ := R8__
  clear R8__
  have R11__ := Aside0.mk (Kd.R_below R11_.out hb)
  clear R11_
  have R11_ := R11__
  clear R11__
  have F14__ := Aside0.mk (FullG.below F14_.out hb)
  clear F14_
  have F14_ := F14__
  clear F14__
  have R20__ := Aside0.mk (Kd.R_below R20_.out hb)
  clear R20_
  have R20_ := R20__
  clear R20__
  have R23__ := Aside0.mk (Kd.R_below R23_.out hb)
  clear R23_
  have R23_ := R23__
  clear R23__
  have HB_ := Aside0.mk (below_step HB.out hb)
  clear HB hb
  have HB := HB_
  clear HB_
  go_wp2_with fail
  refine (toIntS_full _ c0 l0 _ (Kd.C_below HR0.out HB.out) HL0.out).mono ?_
  rintro e w7_ ⟨g28_, c29_, rfl, hf, hb⟩
  have HB0 : Aside0 (w.heap.size ≤ w6_.heap.size) := ⟨HB.out.size⟩
  have HZ7 : Aside0 (w6_.heap.size ≤ w7_.heap.size) := ⟨hb.size⟩
  have F2__ := Aside0.mk (FullG.below F2_.out hb)
  clear F2_
  have F2_ := F2__
  clear F2__
  have R8__ := Aside0.mk (Kd.R_below R8_.out hb)
  clear R8_
  have R8_ := R8__
  clear R8__
  have R11__ := Aside0.mk (Kd.R_below R11_.out hb)
  clear R11_
  have R11_ := R11__
  clear R11__
  have F14__ := Aside0.mk (FullG.below F14_.out hb)
  clear F14_
  have F14_ := F14__
  clear F14__
  have R20__ := Aside0.mk (Kd.R_below R20_.out hb)
  clear R20_
  have R20_ := R20__
  clear R20__
  have R23__ := Aside0.mk (Kd.R_below R23_.out hb)
  clear R23_
  have R23_ := R23__
  clear R23__
  have HB_ := Aside0.mk (below_step HB.out hb)
  clear HB hb
  have HB := HB_
  clear HB_
  have F27_ := Aside0.mk (show FullG w7_ w.heap.size (Btw w6_.heap.size w7_.heap.size) _ _ _ from r_btw hf (by have := HB0.out; exact this))
  clear hf HB0
  go_wp2_with fail
  refine (intactIntS_full _ _ _ _ _ _ _ _ _ _ F14_.out F27_.out HL0.out).mono ?_
  rintro e w8_ ⟨rfl, hd⟩
  have hb := hd.below
  clear hd
  have HZ8 : Aside0 (w7_.heap.size ≤ w8_.heap.size) := ⟨hb.size⟩
  have F2__ := Aside0.mk (FullG.below F2_.out hb)
  clear F2_
  have F2_ := F2__
  clear F2__
  have R8__ := Aside0.mk (Kd.R_below R8_.out hb)
  clear R8_
  have R8_ := R8__
  clear R8__
  have R11__ := Aside0.mk (Kd.R_below R11_.out hb)
  clear R11_
  have R11_ := R11__
  clear R11__
  have F14__ := Aside0.mk (FullG.below F14_.out hb)
  clear F14_
  have F14_ := F14__
  clear F14__
  have R20__ := Aside0.mk (Kd.R_below R20_.out hb)
  clear R20_
  have R20_ := R20__
  clear R20__
  have R23__ := Aside0.mk (Kd.R_below R23_.out hb)
  clear R23_
  have R23_ := R23__
  clear R23__
  have F27__ := Aside0.mk (FullG.below F27_.out hb)
  clear F27_
  have F27_ := F27__
  clear F27__
  have HB_ := Aside0.mk (below_step HB.out hb)
  clear HB hb
  have HB := HB_
  clear HB_
  go_wp2_with fail
  refine (markIntS_own _ _ _ _ _ 101 _ _ HB.out rfl F14_.out.row HL0.out (by omega) (by omega)).mono ?_
  rintro e w9_ ⟨rfl, hr, hB, hk⟩
  have HZ9 : Aside0 (w8_.heap.size ≤ w9_.heap.size) := ⟨hk.1⟩
  have F2__ := Aside0.mk (FullG.keep F2_.out hk (fun k h1 h2 => btw_ne h1 h2 HZ2.out))
  clear F2_
  have F2_ := F2__
  clear F2__
  have R8__ := Aside0.mk (r_keep R8_.out hk (fun k h1 h2 => btw_ne h1.2 h2 (Nat.le_refl _)))
  clear R8_
  have R8_ := R8__
  clear R8__
  have R11__ := Aside0.mk (r_keep R11_.out hk (fun k h1 h2 => btw_ne h1.2 h2 (Nat.le_refl _)))
  clear R11_
  have R11_ := R11__
  clear R11__
  clear F14_
  have R20__ := Aside0.mk (r_keep R20_.out hk (fun k h1 h2 => btw_ne h2 h1.2 (Nat.le_refl _)))
  clear R20_
  have R20_ := R20__
  clear R20__
  have R23__ := Aside0.mk (r_keep R23_.out hk (fun k h1 h2 => btw_ne h2 h1.2 (Nat.le_refl _)))
  clear R23_
  have R23_ := R23__
  clear R23__
  have F27__ := Aside0.mk (FullG.keep F27_.out hk (fun k h1 h2 => btw_ne h2 h1 (Nat.le_trans (Nat.le_trans HZ4.out HZ5.out) HZ6.out)))
  clear F27_
  have F27_ := F27__
  clear F27__
  clear HB hk
  have HB := Aside0.mk hB
  clear hB
  have M30_ := Aside0.mk hr
  clear hr
  go_wp2_with fail
  refine (eqIntS_alike _ _ _ _ _ _ (Kd.R_reads' R20_.out).2.2 (Kd.R_reads' R20_.out).2.1 (Kd.R_reads' R8_.out).2.2 (Kd.R_reads' R8_.out).2.1 HBD_r1.out).mono ?_
  rintro e w10_ ⟨rfl, hb⟩
  have HZ10 : Aside0 (w9_.heap.size ≤ w10_.heap.size) := ⟨hb.size⟩
  have F2__ := Aside0.mk (FullG.below F2_.out hb)
  clear F2_
  have F2_ := F2__
  clear F2__
  have R8__ := Aside0.mk (Kd.R_below R8_.out hb)
  clear R8_
  have R8_ := R8__
  clear R8__
  have R11__ := Aside0.mk (Kd.R_below R11_.out hb)
  clear R11_
  have R11_ := R11__
  clear R11__
  have M30__ := Aside0.mk (Kd.R_below M30_.out hb)
  clear M30_
  have M30_ := M30__
  clear M30__
  have R20__ := Aside0.mk (Kd.R_below R20_.out hb)
  clear R20_
  have R20_ := R20__
  clear R20__
  have R23__ := Aside0.mk (Kd.R_below R23_.out hb)
  clear R23_
  have R23_ := R23__
  clear R23__
  have F27__ := Aside0.mk (FullG.below F27_.out hb)
  clear F27_
  have F27_ := F27__
  clear F27__
  have HB_ := Aside0.mk (below_step HB.out hb)
  clear HB hb
  have HB := HB_
  clear HB_
  go_wp2_with fail
  refine (eqIntS_alike _ _ _ _ _ _ (Kd.R_reads' R23_.out).2.2 (Kd.R_reads' R23_.out).2.1 (Kd.R_reads' R11_.out).2.2 (Kd.R_reads' R11_.out).2.1 HBD_r2.out).mono ?_
  rintro e w11_ ⟨rfl, hb⟩
  have HZ11 : Aside0 (w10_.heap.size ≤ w11_.heap.size) := ⟨hb.size⟩
  have F2__ := Aside0.mk (FullG.below F2_.out hb)
  clear F2_
  have F2_ := F2__
  clear F2__
  have R8__ := Aside0.mk (Kd.R_below R8_.out hb)
  clear R8_
  have R8_ := R8__
  clear R8__
  have R11__ := Aside0.mk (Kd.R_below R11_.out hb)
  clear R11_
  have R11_ := R11__
  clear R11__
  have M30__ := Aside0.mk (Kd.R_below M30_.out hb)
  clear M30_
  have M30_ := M30__
  clear M30__
  have R20__ := Aside0.mk (Kd.R_below R20_.out hb)
  clear R20_
  have R20_ := R20__
  clear R20__
  have R23__ := Aside0.mk (Kd.R_below R23_.out hb)
  clear R23_
  have R23_ := R23__
  clear R23__
  have F27__ := Aside0.mk (FullG.below F27_.out hb)
  clear F27_
  have F27_ := F27__
  clear F27__
  have HB_ := Aside0.mk (below_step HB.out hb)
  clear HB hb
  have HB := HB_
  clear HB_
  go_wp2_with fail
  refine (markIntS_own _ _ _ _ _ 101 _ _ HB.out rfl R20_.out HBD_r1.out (by omega) (by omega)).mono ?_
  rintro e w12_ ⟨rfl, hr, hB, hk⟩
  have HZ12 : Aside0 (w11_.heap.size ≤ w12_.heap.size) := ⟨hk.1⟩
  have F2__ := Aside0.mk (FullG.keep F2_.out hk (fun k h1 h2 => btw_ne h1 h2.2 (Nat.le_trans HZ2.out HZ3.out)))
  clear F2_
  have F2_ := F2__
  clear F2__
  have R8__ := Aside0.mk (r_keep R8_.out hk (fun k h1 h2 => btw_ne h1.2 h2.2 HZ3.out))
  clear R8_
  have R8_ := R8__
  clear R8__
  have R11__ := Aside0.mk (r_keep R11_.out hk (fun k h1 h2 => btw_ne h1.2 h2.2 HZ3.out))
  clear R11_
  have R11_ := R11__
  clear R11__
  have M30__ := Aside0.mk (r_keep M30_.out hk (fun k h1 h2 => btw_ne h1 h2.2 (Nat.le_refl _)))
  clear M30_
  have M30_ := M30__
  clear M30__
  clear R20_
  have R23__ := Aside0.mk (r_keep R23_.out hk (fun k h1 h2 => NE19_.out k h2.1 h1.1))
  clear R23_
  have R23_ := R23__
  clear R23__
  have F27__ := Aside0.mk (FullG.keep F27_.out hk (fun k h1 h2 => btw_ne h2.2 h1 (Nat.le_trans HZ5.out HZ6.out)))
  clear F27_
  have F27_ := F27__
  clear F27__
  clear HB hk
  have HB := Aside0.mk hB
  clear hB
  have M31_ := Aside0.mk hr
  clear hr
  go_wp2_with fail
  refine (markIntS_own _ _ _ _ _ (101 + (r1.length : Int)) _ _ HB.out rfl R23_.out HBD_r2.out (by omega) (by have := HBD_r1.out; omega)).mono ?_
  rintro e w13_ ⟨rfl, hr, hB, hk⟩
  have HZ13 : Aside0 (w12_.heap.size ≤ w13_.heap.size) := ⟨hk.1⟩
  have F2__ := Aside0.mk (FullG.keep F2_.out hk (fun k h1 h2 => btw_ne h1 h2.2 (Nat.le_trans HZ2.out HZ3.out)))
  clear F2_
  have F2_ := F2__
  clear F2__
  have R8__ := Aside0.mk (r_keep R8_.out hk (fun k h1 h2 => btw_ne h1.2 h2.2 HZ3.out))
  clear R8_
  have R8_ := R8__
  clear R8__
  have R11__ := Aside0.mk (r_keep R11_.out hk (fun k h1 h2 => btw_ne h1.2 h2.2 HZ3.out))
  clear R11_
  have R11_ := R11__
  clear R11__
  have M30__ := Aside0.mk (r_keep M30_.out hk (fun k h1 h2 => btw_ne h1 h2.2 (Nat.le_refl _)))
  clear M30_
  have M30_ := M30__
  clear M30__
  have M31__ := Aside0.mk (r_keep M31_.out hk (fun k h1 h2 => NE19_.out k h1.1 h2.1))
  clear M31_
  have M31_ := M31__
  clear M31__
  clear R23_
  have F27__ := Aside0.mk (FullG.keep F27_.out hk (fun k h1 h2 => btw_ne h2.2 h1 (Nat.le_trans HZ5.out HZ6.out)))
  clear F27_
  have F27_ := F27__
  clear F27__
  clear HB hk
  have HB := Aside0.mk hB
  clear hB
  have M32_ := Aside0.mk hr
  clear hr
  go_wp2_with fail
  refine (heldIntS_own _ _ _ _ 101 _ _ M31_.out HBD_r1.out (by omega) (by omega)).mono ?_
  rintro e w14_ ⟨rfl, hd⟩
  have hb := hd.below
  clear hd
  have HZ14 : Aside0 (w13_.heap.size ≤ w14_.heap.size) := ⟨hb.size⟩
  have F2__ := Aside0.mk (FullG.below F2_.out hb)
  clear F2_
  have F2_ := F2__
  clear F2__
  have R8__ := Aside0.mk (Kd.R_below R8_.out hb)
  clear R8_
  have R8_ := R8__
  clear R8__
  have R11__ := Aside0.mk (Kd.R_below R11_.out hb)
  clear R11_
  have R11_ := R11__
  clear R11__
  have M30__ := Aside0.mk (Kd.R_below M30_.out hb)
  clear M30_
  have M30_ := M30__
  clear M30__
  have M31__ := Aside0.mk (Kd.R_below M31_.out hb)
  clear M31_
  have M31_ := M31__
  clear M31__
  have M32__ := Aside0.mk (Kd.R_below M32_.out hb)
  clear M32_
  have M32_ := M32__
  clear M32__
  have F27__ := Aside0.mk (FullG.below F27_.out hb)
  clear F27_
  have F27_ := F27__
  clear F27__
  have HB_ := Aside0.mk (below_step HB.out hb)
  clear HB hb
  have HB := HB_
  clear HB_
  go_wp2_with fail
  refine (heldIntS_own _ _ _ _ (101 + (r1.length : Int)) _ _ M32_.out HBD_r2.out (by omega) (by have := HBD_r1.out; omega)).mono ?_
  rintro e w15_ ⟨rfl, hd⟩
  have hb := hd.below
  clear hd
  have HZ15 : Aside0 (w14_.heap.size ≤ w15_.heap.size) := ⟨hb.size⟩
  have F2__ := Aside0.mk (FullG.below F2_.out hb)
  clear F2_
  have F2_ := F2__
  clear F2__
  have R8__ := Aside0.mk (Kd.R_below R8_.out hb)
  clear R8_
  have R8_ := R8__
  clear R8__
  have R11__ := Aside0.mk (Kd.R_below R11_.out hb)
  clear R11_
  have R11_ := R11__
  clear R11__
  have M30__ := Aside0.mk (Kd.R_below M30_.out hb)
  clear M30_
  have M30_ := M30__
  clear M30__
  have M31__ := Aside0.mk (Kd.R_below M31_.out hb)
  clear M31_
  have M31_ := M31__
  clear M31__
  have M32__ := Aside0.mk (Kd.R_below M32_.out hb)
  clear M32_
  have M32_ := M32__
  clear M32__
  have F27__ := Aside0.mk (FullG.below F27_.out hb)
  clear F27_
  have F27_ := F27__
  clear F27__
  have HB_ := Aside0.mk (below_step HB.out hb)
  clear HB hb
  have HB := HB_
  clear HB_
  go_wp2_with fail
  refine (toIntS_bare _ c0 l0 _ (Kd.C_below HR0.out HB.out) HL0.out).mono ?_
  rintro e w16_ ⟨A37_, c36_, rfl, hf, hb⟩
  have HB0 : Aside0 (w.heap.size ≤ w15_.heap.size) := ⟨HB.out.size⟩
  have HZ16 : Aside0 (w15_.heap.size ≤ w16_.heap.size) := ⟨hb.size⟩
  have F2__ := Aside0.mk (FullG.below F2_.out hb)
  clear F2_
  have F2_ := F2__
  clear F2__
  have R8__ := Aside0.mk (Kd.R_below R8_.out hb)
  clear R8_
  have R8_ := R8__
  clear R8__
  have R11__ := Aside0.mk (Kd.R_below R11_.out hb)
  clear R11_
  have R11_ := R11__
  clear R11__
  have M30__ := Aside0.mk (Kd.R_below M30_.out hb)
  clear M30_
  have M30_ := M30__
  clear M30__
  have M31__ := Aside0.mk (Kd.R_below M31_.out hb)
  clear M31_
  have M31_ := M31__
  clear M31__
  have M32__ := Aside0.mk (Kd.R_below M32_.out hb)
  clear M32_
  have M32_ := M32__
  clear M32__
  have F27__ := Aside0.mk (FullG.below F27_.out hb)
  clear F27_
  have F27_ := F27__
  clear F27__
  have HB_ := Aside0.mk (below_step HB.out hb)
  clear HB hb
  have HB := HB_
  clear HB_
  have F34_ := Aside0.mk (r_btw (b0 := w.heap.size) hf (by have := HB0.out; exact this))
  clear hf HB0
  go_wp2_with fail
  refine (impl_PartsOfTree.calls k2 A37_ c36_ l0 r1 r2 r3 _ (Kd.R_reads' F34_.out).2.2 (Kd.R_reads' F34_.out).2.1 HI.out).mono ?_
  rintro e w17_ ⟨v38_, v39_, rfl, ho0, ho1, hb⟩
  have HB0 : Aside0 (w.heap.size ≤ w16_.heap.size) := ⟨HB.out.size⟩
  have HZ17 : Aside0 (w16_.heap.size ≤ w17_.heap.size) := ⟨hb.size⟩
  have F2__ := Aside0.mk (FullG.below F2_.out hb)
  clear F2_
  have F2_ := F2__
  clear F2__
  have R8__ := Aside0.mk (Kd.R_below R8_.out hb)
  clear R8_
  have R8_ := R8__
  clear R8__
  have R11__ := Aside0.mk (Kd.R_below R11_.out hb)
  clear R11_
  have R11_ := R11__
  clear R11__
  have M30__ := Aside0.mk (Kd.R_below M30_.out hb)
  clear M30_
  have M30_ := M30__
  clear M30__
  have M31__ := Aside0.mk (Kd.R_below M31_.out hb)
  clear M31_
  have M31_ := M31__
  clear M31__
  have M32__ := Aside0.mk (Kd.R_below M32_.out hb)
  clear M32_
  have M32_ := M32__
  clear M32__
  have F27__ := Aside0.mk (FullG.below F27_.out hb)
  clear F27_
  have F27_ := F27__
  clear F27__
  have F34__ := Aside0.mk (Kd.R_below F34_.out hb)
  clear F34_
  have F34_ := F34__
  clear F34__
  have HB_ := Aside0.mk (below_step HB.out hb)
  clear HB hb
  have HB := HB_
  clear HB_
  have NE40_ := Aside0.mk (fun (k : Nat) (h0 : (v38_ : Value).ownBlock = some k) (h1 : (v39_ : Value).ownBlock = some k) => ho0.1 k h0 h1.symm)
  obtain ⟨A42_, c43_, hv_⟩ := Kd.R_slice ho0
  subst hv_
  have R41_ := Aside0.mk (r_own (b0 := w.heap.size) ho0 (by have := HB0.out; exact this))
  clear ho0
  obtain ⟨A45_, c46_, hv_⟩ := Kd.R_slice ho1
  subst hv_
  have R44_ := Aside0.mk (r_own (b0 := w.heap.size) ho1 (by have := HB0.out; exact this))
  clear ho1
  clear HB0
  go_wp2_with fail
  refine (eqIntS_alike _ _ _ _ _ _ (Kd.R_reads' R41_.out).2.2 (Kd.R_reads' R41_.out).2.1 (Kd.R_reads' R8_.out).2.2 (Kd.R_reads' R8_.out).2.1 HBD_r1.out).mono ?_
  rintro e w18_ ⟨rfl, hb⟩
  have HZ18 : Aside0 (w17_.heap.size ≤ w18_.heap.size) := ⟨hb.size⟩
  have F2__ := Aside0.mk (FullG.below F2_.out hb)
  clear F2_
  have F2_ := F2__
  clear F2__
  have R8__ := Aside0.mk (Kd.R_below R8_.out hb)
  clear R8_
  have R8_ := R8__
  clear R8__
  have R11__ := Aside0.mk (Kd.R_below R11_.out hb)
  clear R11_
  have R11_ := R11__
  clear R11__
  have M30__ := Aside0.mk (Kd.R_below M30_.out hb)
  clear M30_
  have M30_ := M30__
  clear M30__
  have M31__ := Aside0.mk (Kd.R_below M31_.out hb)
  clear M31_
  have M31_ := M31__
  clear M31__
  have M32__ := Aside0.mk (Kd.R_below M32_.out hb)
  clear M32_
  have M32_ := M32__
  clear M32__
  have F27__ := Aside0.mk (FullG.below F27_.out hb)
  clear F27_
  have F27_ := F27__
  clear F27__
  have F34__ := Aside0.mk (Kd.R_below F34_.out hb)
  clear F34_
  have F34_ := F34__
  clear F34__
  have R41__ := Aside0.mk (Kd.R_below R41_.out hb)
  clear R41_
  have R41_ := R41__
  clear R41__
  have R44__ := Aside0.mk (Kd.R_below R44_.out hb)
  clear R44_
  have R44_ := R44__
  clear R44__
  have HB_ := Aside0.mk (below_step HB.out hb)
  clear HB hb
  have HB := HB_
  clear HB_
  go_wp2_with fail
  refine (eqIntS_alike _ _ _ _ _ _ (Kd.R_reads' R44_.out).2.2 (Kd.R_reads' R44_.out).2.1 (Kd.R_reads' R11_.out).2.2 (Kd.R_reads' R11_.out).2.1 HBD_r2.out).mono ?_
  rintro e w19_ ⟨rfl, hb⟩
  have HZ19 : Aside0 (w18_.heap.size ≤ w19_.heap.size) := ⟨hb.size⟩
  have F2__ := Aside0.mk (FullG.below F2_.out hb)
  clear F2_
  have F2_ := F2__
  clear F2__
  have R8__ := Aside0.mk (Kd.R_below R8_.out hb)
  clear R8_
  have R8_ := R8__
  clear R8__
  have R11__ := Aside0.mk (Kd.R_below R11_.out hb)
  clear R11_
  have R11_ := R11__
  clear R11__
  have M30__ := Aside0.mk (Kd.R_below M30_.out hb)
  clear M30_
  have M30_ := M30__
  clear M30__
  have M31__ := Aside0.mk (Kd.R_below M31_.out hb)
  clear M31_
  have M31_ := M31__
  clear M31__
  have M32__ := Aside0.mk (Kd.R_below M32_.out hb)
  clear M32_
  have M32_ := M32__
  clear M32__
  have F27__ := Aside0.mk (FullG.below F27_.out hb)
  clear F27_
  have F27_ := F27__
  clear F27__
  have F34__ := Aside0.mk (Kd.R_below F34_.out hb)
  clear F34_
  have F34_ := F34__
  clear F34__
  have R41__ := Aside0.mk (Kd.R_below R41_.out hb)
  clear R41_
  have R41_ := R41__
  clear R41__
  have R44__ := Aside0.mk (Kd.R_below R44_.out hb)
  clear R44_
  have R44_ := R44__
  clear R44__
  have HB_ := Aside0.mk (below_step HB.out hb)
  clear HB hb
  have HB := HB_
  clear HB_
  go_wp2_with fail
  refine (heldIntS_own _ _ _ _ 101 _ _ M31_.out HBD_r1.out (by omega) (by omega)).mono ?_
  rintro e w20_ ⟨rfl, hd⟩
  have hb := hd.below
  clear hd
  have HZ20 : Aside0 (w19_.heap.size ≤ w20_.heap.size) := ⟨hb.size⟩
  have F2__ := Aside0.mk (FullG.below F2_.out hb)
  clear F2_
  have F2_ := F2__
  clear F2__
  have R8__ := Aside0.mk (Kd.R_below R8_.out hb)
  clear R8_
  have R8_ := R8__
  clear R8__
  have R11__ := Aside0.mk (Kd.R_below R11_.out hb)
  clear R11_
  have R11_ := R11__
  clear R11__
  have M30__ := Aside0.mk (Kd.R_below M30_.out hb)
  clear M30_
  have M30_ := M30__
  clear M30__
  have M31__ := Aside0.mk (Kd.R_below M31_.out hb)
  clear M31_
  have M31_ := M31__
  clear M31__
  have M32__ := Aside0.mk (Kd.R_below M32_.out hb)
  clear M32_
  have M32_ := M32__
  clear M32__
  have F27__ := Aside0.mk (FullG.below F27_.out hb)
  clear F27_
  have F27_ := F27__
  clear F27__
  have F34__ := Aside0.mk (Kd.R_below F34_.out hb)
  clear F34_
  have F34_ := F34__
  clear F34__
  have R41__ := Aside0.mk (Kd.R_below R41_.out hb)
  clear R41_
  have R41_ := R41__
  clear R41__
  have R44__ := Aside0.mk (Kd.R_below R44_.out hb)
  clear R44_
  have R44_ := R44__
  clear R44__
  have HB_ := Aside0.mk (below_step HB.out hb)
  clear HB hb
  have HB := HB_
  clear HB_
  go_wp2_with fail
  refine (heldIntS_own _ _ _ _ (101 + (r1.length : Int)) _ _ M32_.out HBD_r2.out (by omega) (by have := HBD_r1.out; omega)).mono ?_
  rintro e w21_ ⟨rfl, hd⟩
  have hb := hd.below
  clear hd
  have HZ21 : Aside0 (w20_.heap.size ≤ w21_.heap.size) := ⟨hb.size⟩
  have F2__ := Aside0.mk (FullG.below F2_.out hb)
  clear F2_
  have F2_ := F2__
  clear F2__
  have R8__ := Aside0.mk (Kd.R_below R8_.out hb)
  clear R8_
  have R8_ := R8__
  clear R8__
  have R11__ := Aside0.mk (Kd.R_below R11_.out hb)
  clear R11_
  have R11_ := R11__
  clear R11__
  have M30__ := Aside0.mk (Kd.R_below M30_.out hb)
  clear M30_
  have M30_ := M30__
  clear M30__
  have M31__ := Aside0.mk (Kd.R_below M31_.out hb)
  clear M31_
  have M31_ := M31__
  clear M31__
  have M32__ := Aside0.mk (Kd.R_below M32_.out hb)
  clear M32_
  have M32_ := M32__
  clear M32__
  have F27__ := Aside0.mk (FullG.below F27_.out hb)
  clear F27_
  have F27_ := F27__
  clear F27__
  have F34__ := Aside0.mk (Kd.R_below F34_.out hb)
  clear F34_
  have F34_ := F34__
  clear F34__
  have R41__ := Aside0.mk (Kd.R_below R41_.out hb)
  clear R41_
  have R41_ := R41__
  clear R41__
  have R44__ := Aside0.mk (Kd.R_below R44_.out hb)
  clear R44_
  have R44_ := R44__
  clear R44__
  have HB_ := Aside0.mk (below_step HB.out hb)
  clear HB hb
  have HB := HB_
  clear HB_
  go_wp2
  go_ret
  exact ⟨rfl, HB.out⟩
set_option maxHeartbeats 4000000 in
set_option maxRecDepth 100000 in
theorem laws_FnExactPartsOfTree.walk (P : laws_FnExactPartsOfTree.Pure) (a0 : Option Addr) (len0 cap0 : Nat) (z0 : List Int) (w : World) (w0 : (a0 = none ∧ len0 = 0 ∧ cap0 = 0 ∧ z0 = []) ∨ ∃ x, a0 = some x ∧ len0 ≤ cap0 ∧ cap0 ≤ maxLen ∧ z0.length = cap0 ∧ (∀ i, i < z0.length → w.cell? (x.add i) = some (.int .i64 (z0.getD i 0))) ∧ ∀ n ∈ z0, (Lit.int .i64 n).wf = true) (y0 : len0 * 8 ≤ 140737488351232) :
    Calls Try.prog 5 #[.slice a0 len0 cap0] w fun e w' => e = .returned (.bool true) ∧ Below w.heap.size w w' := by
  obtain ⟨l0, rfl, hr0, hm0, hw0, hc0⟩ := ReadsInt.ofRowC w0
  by_cases hl : l0.length ≤ 1000000
  · obtain ⟨k1, k2, r1, r2, r3, hs, hi, hb_r1, hb_r2⟩ := P l0 hw0 hl
    exact laws_FnExactPartsOfTree.alike k1 k2 _ _ l0 r1 r2 r3 w (Kd.C_of_reads (d := (0 : Int)) (h1 := fun _ => rfl) hr0) hc0 hl hs hi hb_r1 hb_r2
  · clear hr0 hc0
    go_enter Try.func5, Try.ntmps5
    go_wp2
    go_ret
    exact ⟨rfl, Below.refl _ _⟩


end Go.Proofs.Ytmclbiollhdbjaa.PrintZ
