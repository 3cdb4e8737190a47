-- written by this session's own driver (wip/gen.py) with the kit's print and contracts of our own
import Derived.Test.YtkflioekhadebaaPrintA0
import Derived.Test.YtkflioekhadebaaPrintA1
import Derived.Test.YtkflioekhadebaaPrintA3
import Derived.Test.YtkflioekhadebaaPrintA4
import Derived.Test.YtkflioekhadebaaPrintA5
import Derived.Test.YtkflioekhadebaaPrintA8
import Derived.Test.YtkflioekhadebaaPrintA9
import Derived.Test.YtkflioekhadebaaPrintA10
import Derived.Test.YtkflioekhadebaaPrintA11
import Derived.Test.YtkflioekhadebaaPrintA14
import Derived.Test.YtkflioekhadebaaPrintA15
import Derived.Test.YtkflioekhadebaaPrintA17
import Derived.Test.YtkflioekhadebaaPrintA18
import Derived.Test.YtkflioekhadebaaPrintA19
namespace Go.Proofs.Ytkflioekhadebaa.PrintA
open Go.RowKit Go.Proofs.YtkflioekhadebaaLib Go.Proofs.YtkflioekhadebaaW.PrintWords Go.Proofs.YtkflioekhadebaaW.PrintLast Go.Proofs.YtkflioekhadebaaW.PrintMore
attribute [local go_sem] max2_int min2_int max_two min_two max_three min_three max_four min_four   -- for this text's walks alone
set_option linter.unusedVariables false
set_option linter.unusedSimpArgs false

/-! ### laws_FnExactHousesLeft: function 7, a law -/
/-- THE ONE PURE STATEMENT of laws_FnExactHousesLeft. -/
def laws_FnExactHousesLeft.Pure : Prop := ∀ (l0 : List Int) (l1 : List S47), (∀ x ∈ l0, (Lit.int .i64 x).wf = true) → l0.length + l1.length ≤ 1000000 → ∃ (k2 : Nat) (r1 : List (List Int)) (r2 : Bool), spec_HousesLeft.f l0 l1 = some (r1, r2) ∧ impl_HousesLeft.f k2 l0 l1 = some (r1, r2) ∧ r1.length + r1.flatten.length ≤ 1000000
set_option maxHeartbeats 8000000 in
set_option maxRecDepth 100000 in
theorem laws_FnExactHousesLeft.alike (k2 : Nat) (A0 : Option Addr) (c0 : Nat) (l0 : List Int) (A1 : Option Addr) (c1 : Nat) (l1 : List S50) (r1 : List (List Int)) (r2 : Bool) (w : World) (hr0 : Kd.C (Kd.int .i64) w A0 l0.length l0) (hc0 : l0.length ≤ c0) (hr1 : Kd.C k50 w A1 l1.length l1) (hc1 : l1.length ≤ c1) (hl : l0.length + l1.length ≤ 1000000) (hs : spec_HousesLeft.f l0 (l1.map cvH) = some (r1, r2)) (hi : impl_HousesLeft.f k2 l0 (l1.map cvH) = some (r1, r2)) (hb_r1 : r1.length + r1.flatten.length ≤ 1000000) :
    Calls Try.prog 7 #[.slice A0 l0.length c0, .slice A1 l1.length c1] w fun e w' => e = .returned (.bool true) ∧ Below w.heap.size w w' := by
  have HR0 := Aside0.mk hr0
  have HC0 := Aside0.mk hc0
  clear hr0 hc0
  have HL0 : Aside0 (l0.length ≤ 1000000) := ⟨by omega⟩
  have HR1 := Aside0.mk hr1
  have HC1 := Aside0.mk hc1
  clear hr1 hc1
  have HL1 : Aside0 (l1.length ≤ 1000000) := ⟨by omega⟩
  have HBD_r1 := Aside0.mk hb_r1
  clear hb_r1
  have HS := Aside0.mk hs
  have HI := Aside0.mk hi
  clear hs hi
  have hsz_ : IntKind.i64.wrap (1000000 - (l0.length : Int)) = 1000000 - (l0.length : Int) := by rw [i64_w]; unfold wrap64; omega
  have HSZ := Aside0.mk (szHouseDropS_is l1 (1000000 - (l0.length : Int)) (by clear hsz_; omega) (by clear hsz_; omega) (by clear hsz_; omega))
  rw [if_neg (by clear hsz_; omega)] at HSZ
  have HTF1 := Aside0.mk (fun W (h : Kd.C k50 W A1 l1.length l1) => toHouseDropS_full A1 c1 l1 W h HL1.out)
  have HTB1 := Aside0.mk (fun W (h : Kd.C k50 W A1 l1.length l1) => toHouseDropS_bare A1 c1 l1 W h HL1.out)
  have HLM1 : Aside0 ((l1.map cvH).length ≤ 1000000) := ⟨by rw [List.length_map]; exact HL1.out⟩
  generalize l1.map cvH = m1 at HS HI HTF1 HTB1 HLM1
  have hlz_ : (1000000 - (l0.length : Int) - (l1.length : Int) < 0) = False := by clear hsz_; rw [eq_iff_iff]; constructor <;> intro h <;> first | omega | exact h.elim
  have HB := Aside0.mk (Below.refl w.heap.size w)
  go_enter Try.func7, Try.ntmps7
  go_wp2_with fail
  refine (laws_szHouseDropS.calls0 _ _ _ _ _ _ (Kd.C_below HR1.out HB.out) HC1.out HSZ.out).mono ?_
  rintro e w1_ ⟨rfl, rfl⟩
  go_wp2_with fail
  clear hsz_ hlz_ HSZ
  refine (toIntS_full _ c0 l0 _ (Kd.C_below HR0.out HB.out) HL0.out).mono ?_
  rintro e w1_ ⟨g3_, c4_, rfl, hf, hb⟩
  have HB0 : Aside0 (w.heap.size ≤ w.heap.size) := ⟨HB.out.size⟩
  have HZ1 : Aside0 (w.heap.size ≤ w1_.heap.size) := ⟨hb.size⟩
  have HB_ := Aside0.mk (below_step HB.out hb)
  clear HB hb
  have HB := HB_
  clear HB_
  have F2_ := Aside0.mk (show FullG w1_ w.heap.size (Btw w.heap.size w1_.heap.size) _ _ _ from r_btw hf (by have := HB0.out; exact this))
  clear hf HB0
  go_wp2_with fail
  refine (HTF1.out _ (Kd.C_below HR1.out HB.out)).mono ?_
  rintro e w2_ ⟨g7_, c8_, rfl, hf, hb⟩
  have HB0 : Aside0 (w.heap.size ≤ w1_.heap.size) := ⟨HB.out.size⟩
  have HZ2 : Aside0 (w1_.heap.size ≤ w2_.heap.size) := ⟨hb.size⟩
  have F2__ := Aside0.mk (FullG.below F2_.out hb)
  clear F2_
  have F2_ := F2__
  clear F2__
  have HB_ := Aside0.mk (below_step HB.out hb)
  clear HB hb
  have HB := HB_
  clear HB_
  have F6_ := Aside0.mk (show FullH w2_ w.heap.size (Btw w1_.heap.size w2_.heap.size) _ _ _ from r_btw hf (by have := HB0.out; exact this))
  clear hf HB0
  go_wp2_with fail
  refine (spec_HousesLeft.calls (some ⟨g3_, 0, none⟩) c4_ l0 (some ⟨g7_, 0, none⟩) c8_ m1 r1 r2 _ (FullG.reads F2_.out).2 (FullG.reads F2_.out).1 (FullH.reads F6_.out).2 (FullH.reads F6_.out).1 HS.out).mono ?_
  rintro e w3_ ⟨v9_, rfl, ho0, hb⟩
  have HB0 : Aside0 (w.heap.size ≤ w2_.heap.size) := ⟨HB.out.size⟩
  have HZ3 : Aside0 (w2_.heap.size ≤ w3_.heap.size) := ⟨hb.size⟩
  have F2__ := Aside0.mk (FullG.below F2_.out hb)
  clear F2_
  have F2_ := F2__
  clear F2__
  have F6__ := Aside0.mk (FullH.below F6_.out hb)
  clear F6_
  have F6_ := F6__
  clear F6__
  have HB_ := Aside0.mk (below_step HB.out hb)
  clear HB hb
  have HB := HB_
  clear HB_
  obtain ⟨A11_, c12_, hv_⟩ := Kd.R_slice ho0
  subst hv_
  have R10_ := Aside0.mk (r_btw (b0 := w.heap.size) ho0 (by have := HB0.out; exact this))
  clear ho0
  clear HB0
  go_wp2_with fail
  refine (toIntS_full _ c0 l0 _ (Kd.C_below HR0.out HB.out) HL0.out).mono ?_
  rintro e w4_ ⟨g14_, c15_, rfl, hf, hb⟩
  have HB0 : Aside0 (w.heap.size ≤ w3_.heap.size) := ⟨HB.out.size⟩
  have HZ4 : Aside0 (w3_.heap.size ≤ w4_.heap.size) := ⟨hb.size⟩
  have F2__ := Aside0.mk (FullG.below F2_.out hb)
  clear F2_
  have F2_ := F2__
  clear F2__
  have F6__ := Aside0.mk (FullH.below F6_.out hb)
  clear F6_
  have F6_ := F6__
  clear F6__
  have R10__ := Aside0.mk (Kd.R_below R10_.out hb)
  clear R10_
  have R10_ := R10__
  clear R10__
  have HB_ := Aside0.mk (below_step HB.out hb)
  clear HB hb
  have HB := HB_
  clear HB_
  have F13_ := Aside0.mk (show FullG w4_ w.heap.size (Btw w3_.heap.size w4_.heap.size) _ _ _ from r_btw hf (by have := HB0.out; exact this))
  clear hf HB0
  go_wp2_with fail
  refine (HTF1.out _ (Kd.C_below HR1.out HB.out)).mono ?_
  rintro e w5_ ⟨g17_, c18_, rfl, hf, hb⟩
  have HB0 : Aside0 (w.heap.size ≤ w4_.heap.size) := ⟨HB.out.size⟩
  have HZ5 : Aside0 (w4_.heap.size ≤ w5_.heap.size) := ⟨hb.size⟩
  have F2__ := Aside0.mk (FullG.below F2_.out hb)
  clear F2_
  have F2_ := F2__
  clear F2__
  have F6__ := Aside0.mk (FullH.below F6_.out hb)
  clear F6_
  have F6_ := F6__
  clear F6__
  have R10__ := Aside0.mk (Kd.R_below R10_.out hb)
  clear R10_
  have R10_ := R10__
  clear R10__
  have F13__ := Aside0.mk (FullG.below F13_.out hb)
  clear F13_
  have F13_ := F13__
  clear F13__
  have HB_ := Aside0.mk (below_step HB.out hb)
  clear HB hb
  have HB := HB_
  clear HB_
  have F16_ := Aside0.mk (show FullH w5_ w.heap.size (Btw w4_.heap.size w5_.heap.size) _ _ _ from r_btw hf (by have := HB0.out; exact this))
  clear hf HB0
  go_wp2_with fail
  refine (impl_HousesLeft.callsS k2 (some ⟨g14_, 0, none⟩) c15_ l0 (some ⟨g17_, 0, none⟩) c18_ m1 r1 r2 _ (FullG.reads F13_.out).2 (FullG.reads F13_.out).1 (FullH.reads F16_.out).2 (FullH.reads F16_.out).1 HI.out).mono ?_
  rintro e w6_ ⟨v19_, rfl, ho0, hb⟩
  have HB0 : Aside0 (w.heap.size ≤ w5_.heap.size) := ⟨HB.out.size⟩
  have HZ6 : Aside0 (w5_.heap.size ≤ w6_.heap.size) := ⟨hb.size⟩
  have F2__ := Aside0.mk (FullG.below F2_.out hb)
  clear F2_
  have F2_ := F2__
  clear F2__
  have F6__ := Aside0.mk (FullH.below F6_.out hb)
  clear F6_
  have F6_ := F6__
  clear F6__
  have R10__ := Aside0.mk (Kd.R_below R10_.out hb)
  clear R10_
  have R10_ := R10__
  clear R10__
  have F13__ := Aside0.mk (FullG.below F13_.out hb)
  clear F13_
  have F13_ := F13__
  clear F13__
  have F16__ := Aside0.mk (FullH.below F16_.out hb)
  clear F16_
  have F16_ := F16__
  clear F16__
  have HB_ := Aside0.mk (below_step HB.out hb)
  clear HB hb
  have HB := HB_
  clear HB_
  obtain ⟨A21_, c22_, hv_⟩ := Kd.S_slice ho0
  subst hv_
  have R20_ := Aside0.mk (s_btw (b0 := w.heap.size) ho0 (by have := HB0.out; exact this))
  clear ho0
  clear HB0
  go_wp2_with fail
  refine (eqIntSS_alike _ _ _ _ _ _ (Kd.S_reads' R20_.out).2.2 (Kd.S_reads' R20_.out).2.1 (Kd.R_reads' R10_.out).2.2 (Kd.R_reads' R10_.out).2.1 HBD_r1.out).mono ?_
  rintro e w7_ ⟨rfl, hb⟩
  have HZ7 : Aside0 (w6_.heap.size ≤ w7_.heap.size) := ⟨hb.size⟩
  have F2__ := Aside0.mk (FullG.below F2_.out hb)
  clear F2_
  have F2_ := F2__
  clear F2__
  have F6__ := Aside0.mk (FullH.below F6_.out hb)
  clear F6_
  have F6_ := F6__
  clear F6__
  have R10__ := Aside0.mk (Kd.R_below R10_.out hb)
  clear R10_
  have R10_ := R10__
  clear R10__
  have F13__ := Aside0.mk (FullG.below F13_.out hb)
  clear F13_
  have F13_ := F13__
  clear F13__
  have F16__ := Aside0.mk (FullH.below F16_.out hb)
  clear F16_
  have F16_ := F16__
  clear F16__
  have R20__ := Aside0.mk (Kd.S_below R20_.out hb)
  clear R20_
  have R20_ := R20__
  clear R20__
  have HB_ := Aside0.mk (below_step HB.out hb)
  clear HB hb
  have HB := HB_
  clear HB_
  go_wp2_with fail
  refine (toIntS_full _ c0 l0 _ (Kd.C_below HR0.out HB.out) HL0.out).mono ?_
  rintro e w8_ ⟨g25_, c26_, rfl, hf, hb⟩
  have HB0 : Aside0 (w.heap.size ≤ w7_.heap.size) := ⟨HB.out.size⟩
  have HZ8 : Aside0 (w7_.heap.size ≤ w8_.heap.size) := ⟨hb.size⟩
  have F2__ := Aside0.mk (FullG.below F2_.out hb)
  clear F2_
  have F2_ := F2__
  clear F2__
  have F6__ := Aside0.mk (FullH.below F6_.out hb)
  clear F6_
  have F6_ := F6__
  clear F6__
  have R10__ := Aside0.mk (Kd.R_below R10_.out hb)
  clear R10_
  have R10_ := R10__
  clear R10__
  have F13__ := Aside0.mk (FullG.below F13_.out hb)
  clear F13_
  have F13_ := F13__
  clear F13__
  have F16__ := Aside0.mk (FullH.below F16_.out hb)
  clear F16_
  have F16_ := F16__
  clear F16__
  have R20__ := Aside0.mk (Kd.S_below R20_.out hb)
  clear R20_
  have R20_ := R20__
  clear R20__
  have HB_ := Aside0.mk (below_step HB.out hb)
  clear HB hb
  have HB := HB_
  clear HB_
  have F24_ := Aside0.mk (show FullG w8_ w.heap.size (Btw w7_.heap.size w8_.heap.size) _ _ _ from r_btw hf (by have := HB0.out; exact this))
  clear hf HB0
  go_wp2_with fail
  refine (intactIntS_full _ _ _ _ _ _ _ _ _ _ F13_.out F24_.out HL0.out).mono ?_
  rintro e w9_ ⟨rfl, hd⟩
  have hb := hd.below
  clear hd
  have HZ9 : Aside0 (w8_.heap.size ≤ w9_.heap.size) := ⟨hb.size⟩
  have F2__ := Aside0.mk (FullG.below F2_.out hb)
  clear F2_
  have F2_ := F2__
  clear F2__
  have F6__ := Aside0.mk (FullH.below F6_.out hb)
  clear F6_
  have F6_ := F6__
  clear F6__
  have R10__ := Aside0.mk (Kd.R_below R10_.out hb)
  clear R10_
  have R10_ := R10__
  clear R10__
  have F13__ := Aside0.mk (FullG.below F13_.out hb)
  clear F13_
  have F13_ := F13__
  clear F13__
  have F16__ := Aside0.mk (FullH.below F16_.out hb)
  clear F16_
  have F16_ := F16__
  clear F16__
  have R20__ := Aside0.mk (Kd.S_below R20_.out hb)
  clear R20_
  have R20_ := R20__
  clear R20__
  have F24__ := Aside0.mk (FullG.below F24_.out hb)
  clear F24_
  have F24_ := F24__
  clear F24__
  have HB_ := Aside0.mk (below_step HB.out hb)
  clear HB hb
  have HB := HB_
  clear HB_
  go_wp2_with fail
  refine (HTF1.out _ (Kd.C_below HR1.out HB.out)).mono ?_
  rintro e w10_ ⟨g29_, c30_, rfl, hf, hb⟩
  have HB0 : Aside0 (w.heap.size ≤ w9_.heap.size) := ⟨HB.out.size⟩
  have HZ10 : Aside0 (w9_.heap.size ≤ w10_.heap.size) := ⟨hb.size⟩
  have F2__ := Aside0.mk (FullG.below F2_.out hb)
  clear F2_
  have F2_ := F2__
  clear F2__
  have F6__ := Aside0.mk (FullH.below F6_.out hb)
  clear F6_
  have F6_ := F6__
  clear F6__
  have R10__ := Aside0.mk (Kd.R_below R10_.out hb)
  clear R10_
  have R10_ := R10__
  clear R10__
  have F13__ := Aside0.mk (FullG.below F13_.out hb)
  clear F13_
  have F13_ := F13__
  clear F13__
  have F16__ := Aside0.mk (FullH.below F16_.out hb)
  clear F16_
  have F16_ := F16__
  clear F16__
  have R20__ := Aside0.mk (Kd.S_below R20_.out hb)
  clear R20_
  have R20_ := R20__
  clear R20__
  have F24__ := Aside0.mk (FullG.below F24_.out hb)
  clear F24_
  have F24_ := F24__
  clear F24__
  have HB_ := Aside0.mk (below_step HB.out hb)
  clear HB hb
  have HB := HB_
  clear HB_
  have F28_ := Aside0.mk (show FullH w10_ w.heap.size (Btw w9_.heap.size w10_.heap.size) _ _ _ from r_btw hf (by have := HB0.out; exact this))
  clear hf HB0
  go_wp2_with fail
  refine (intactHouseDropS_full _ _ _ _ _ _ _ _ _ _ F16_.out F28_.out HLM1.out).mono ?_
  rintro e w11_ ⟨rfl, hb⟩
  have HZ11 : Aside0 (w10_.heap.size ≤ w11_.heap.size) := ⟨hb.size⟩
  have F2__ := Aside0.mk (FullG.below F2_.out hb)
  clear F2_
  have F2_ := F2__
  clear F2__
  have F6__ := Aside0.mk (FullH.below F6_.out hb)
  clear F6_
  have F6_ := F6__
  clear F6__
  have R10__ := Aside0.mk (Kd.R_below R10_.out hb)
  clear R10_
  have R10_ := R10__
  clear R10__
  have F13__ := Aside0.mk (FullG.below F13_.out hb)
  clear F13_
  have F13_ := F13__
  clear F13__
  have F16__ := Aside0.mk (FullH.below F16_.out hb)
  clear F16_
  have F16_ := F16__
  clear F16__
  have R20__ := Aside0.mk (Kd.S_below R20_.out hb)
  clear R20_
  have R20_ := R20__
  clear R20__
  have F24__ := Aside0.mk (FullG.below F24_.out hb)
  clear F24_
  have F24_ := F24__
  clear F24__
  have F28__ := Aside0.mk (FullH.below F28_.out hb)
  clear F28_
  have F28_ := F28__
  clear F28__
  have HB_ := Aside0.mk (below_step HB.out hb)
  clear HB hb
  have HB := HB_
  clear HB_
  go_wp2_with fail
  refine (markIntS_own _ _ _ _ _ 101 _ _ HB.out rfl F13_.out.row HL0.out (by omega) (by omega)).mono ?_
  rintro e w12_ ⟨rfl, hr, hB, hk⟩
  have HZ12 : Aside0 (w11_.heap.size ≤ w12_.heap.size) := ⟨hk.1⟩
  have F2__ := Aside0.mk (FullG.keep F2_.out hk (fun k h1 h2 => btw_ne h1 h2 (Nat.le_trans HZ2.out HZ3.out)))
  clear F2_
  have F2_ := F2__
  clear F2__
  have F6__ := Aside0.mk (FullH.keep F6_.out hk (fun k h1 h2 => btw_ne h1 h2 HZ3.out))
  clear F6_
  have F6_ := F6__
  clear F6__
  have R10__ := Aside0.mk (r_keep R10_.out hk (fun k h1 h2 => btw_ne h1 h2 (Nat.le_refl _)))
  clear R10_
  have R10_ := R10__
  clear R10__
  clear F13_
  have F16__ := Aside0.mk (FullH.keep F16_.out hk (fun k h1 h2 => btw_ne h2 h1 (Nat.le_refl _)))
  clear F16_
  have F16_ := F16__
  clear F16__
  have R20__ := Aside0.mk (s_keep R20_.out hk (fun k h1 h2 => btw_ne h2 h1 HZ5.out))
  clear R20_
  have R20_ := R20__
  clear R20__
  have F24__ := Aside0.mk (FullG.keep F24_.out hk (fun k h1 h2 => btw_ne h2 h1 (Nat.le_trans (Nat.le_trans HZ5.out HZ6.out) HZ7.out)))
  clear F24_
  have F24_ := F24__
  clear F24__
  have F28__ := Aside0.mk (FullH.keep F28_.out hk (fun k h1 h2 => btw_ne h2 h1 (Nat.le_trans (Nat.le_trans (Nat.le_trans (Nat.le_trans HZ5.out HZ6.out) HZ7.out) HZ8.out) HZ9.out)))
  clear F28_
  have F28_ := F28__
  clear F28__
  clear HB hk
  have HB := Aside0.mk hB
  clear hB
  have M31_ := Aside0.mk hr
  clear hr
  clear M31_
  go_wp2_with fail
  refine (markHouseDropS_own _ _ _ _ _ (101 + (l0.length : Int)) _ _ HB.out rfl F16_.out.row HLM1.out (by omega) (by have := HL0.out; omega)).mono ?_
  rintro e w13_ ⟨rfl, hr, hB, hk⟩
  have HZ13 : Aside0 (w12_.heap.size ≤ w13_.heap.size) := ⟨hk.1⟩
  have F2__ := Aside0.mk (FullG.keep F2_.out hk (fun k h1 h2 => btw_ne h1 h2 (Nat.le_trans (Nat.le_trans HZ2.out HZ3.out) HZ4.out)))
  clear F2_
  have F2_ := F2__
  clear F2__
  have F6__ := Aside0.mk (FullH.keep F6_.out hk (fun k h1 h2 => btw_ne h1 h2 (Nat.le_trans HZ3.out HZ4.out)))
  clear F6_
  have F6_ := F6__
  clear F6__
  have R10__ := Aside0.mk (r_keep R10_.out hk (fun k h1 h2 => btw_ne h1 h2 HZ4.out))
  clear R10_
  have R10_ := R10__
  clear R10__
  clear F16_
  have R20__ := Aside0.mk (s_keep R20_.out hk (fun k h1 h2 => btw_ne h2 h1 (Nat.le_refl _)))
  clear R20_
  have R20_ := R20__
  clear R20__
  have F24__ := Aside0.mk (FullG.keep F24_.out hk (fun k h1 h2 => btw_ne h2 h1 (Nat.le_trans HZ6.out HZ7.out)))
  clear F24_
  have F24_ := F24__
  clear F24__
  have F28__ := Aside0.mk (FullH.keep F28_.out hk (fun k h1 h2 => btw_ne h2 h1 (Nat.le_trans (Nat.le_trans (Nat.le_trans HZ6.out HZ7.out) HZ8.out) HZ9.out)))
  clear F28_
  have F28_ := F28__
  clear F28__
  clear HB hk
  have HB := Aside0.mk hB
  clear hB
  have M32_ := Aside0.mk hr
  clear hr
  clear M32_
  go_wp2_with fail
  refine (eqIntSS_alike _ _ _ _ _ _ (Kd.S_reads' R20_.out).2.2 (Kd.S_reads' R20_.out).2.1 (Kd.R_reads' R10_.out).2.2 (Kd.R_reads' R10_.out).2.1 HBD_r1.out).mono ?_
  rintro e w14_ ⟨rfl, hb⟩
  have HZ14 : Aside0 (w13_.heap.size ≤ w14_.heap.size) := ⟨hb.size⟩
  have F2__ := Aside0.mk (FullG.below F2_.out hb)
  clear F2_
  have F2_ := F2__
  clear F2__
  have F6__ := Aside0.mk (FullH.below F6_.out hb)
  clear F6_
  have F6_ := F6__
  clear F6__
  have R10__ := Aside0.mk (Kd.R_below R10_.out hb)
  clear R10_
  have R10_ := R10__
  clear R10__
  have R20__ := Aside0.mk (Kd.S_below R20_.out hb)
  clear R20_
  have R20_ := R20__
  clear R20__
  have F24__ := Aside0.mk (FullG.below F24_.out hb)
  clear F24_
  have F24_ := F24__
  clear F24__
  have F28__ := Aside0.mk (FullH.below F28_.out hb)
  clear F28_
  have F28_ := F28__
  clear F28__
  have HB_ := Aside0.mk (below_step HB.out hb)
  clear HB hb
  have HB := HB_
  clear HB_
  go_wp2_with fail
  refine (markIntSS_own _ _ _ _ _ 101 _ _ HB.out rfl R20_.out HBD_r1.out (by omega) (by omega)).mono ?_
  rintro e w15_ ⟨rfl, hr, hB, hk⟩
  have HZ15 : Aside0 (w14_.heap.size ≤ w15_.heap.size) := ⟨hk.1⟩
  have F2__ := Aside0.mk (FullG.keep F2_.out hk (fun k h1 h2 => btw_ne h1 h2 (Nat.le_trans (Nat.le_trans (Nat.le_trans HZ2.out HZ3.out) HZ4.out) HZ5.out)))
  clear F2_
  have F2_ := F2__
  clear F2__
  have F6__ := Aside0.mk (FullH.keep F6_.out hk (fun k h1 h2 => btw_ne h1 h2 (Nat.le_trans (Nat.le_trans HZ3.out HZ4.out) HZ5.out)))
  clear F6_
  have F6_ := F6__
  clear F6__
  have R10__ := Aside0.mk (r_keep R10_.out hk (fun k h1 h2 => btw_ne h1 h2 (Nat.le_trans HZ4.out HZ5.out)))
  clear R10_
  have R10_ := R10__
  clear R10__
  clear R20_
  have F24__ := Aside0.mk (FullG.keep F24_.out hk (fun k h1 h2 => btw_ne h2 h1 HZ7.out))
  clear F24_
  have F24_ := F24__
  clear F24__
  have F28__ := Aside0.mk (FullH.keep F28_.out hk (fun k h1 h2 => btw_ne h2 h1 (Nat.le_trans (Nat.le_trans HZ7.out HZ8.out) HZ9.out)))
  clear F28_
  have F28_ := F28__
  clear F28__
  clear HB hk
  have HB := Aside0.mk hB
  clear hB
  have M33_ := Aside0.mk hr
  clear hr
  go_wp2_with fail
  refine (heldIntSS_own _ _ _ _ 101 _ _ M33_.out HBD_r1.out (by omega) (by omega)).mono ?_
  rintro e w16_ ⟨rfl, hd⟩
  have hb := hd.below
  clear hd
  have HZ16 : Aside0 (w15_.heap.size ≤ w16_.heap.size) := ⟨hb.size⟩
  have F2__ := Aside0.mk (FullG.below F2_.out hb)
  clear F2_
  have F2_ := F2__
  clear F2__
  have F6__ := Aside0.mk (FullH.below F6_.out hb)
  clear F6_
  have F6_ := F6__
  clear F6__
  have R10__ := Aside0.mk (Kd.R_below R10_.out hb)
  clear R10_
  have R10_ := R10__
  clear R10__
  have M33__ := Aside0.mk (Kd.S_below M33_.out hb)
  clear M33_
  have M33_ := M33__
  clear M33__
  have F24__ := Aside0.mk (FullG.below F24_.out hb)
  clear F24_
  have F24_ := F24__
  clear F24__
  have F28__ := Aside0.mk (FullH.below F28_.out hb)
  clear F28_
  have F28_ := F28__
  clear F28__
  have HB_ := Aside0.mk (below_step HB.out hb)
  clear HB hb
  have HB := HB_
  clear HB_
  go_wp2_with fail
  refine (toIntS_bare _ c0 l0 _ (Kd.C_below HR0.out HB.out) HL0.out).mono ?_
  rintro e w17_ ⟨A38_, c37_, rfl, hf, hb⟩
  have HB0 : Aside0 (w.heap.size ≤ w16_.heap.size) := ⟨HB.out.size⟩
  have HZ17 : Aside0 (w16_.heap.size ≤ w17_.heap.size) := ⟨hb.size⟩
  have F2__ := Aside0.mk (FullG.below F2_.out hb)
  clear F2_
  have F2_ := F2__
  clear F2__
  have F6__ := Aside0.mk (FullH.below F6_.out hb)
  clear F6_
  have F6_ := F6__
  clear F6__
  have R10__ := Aside0.mk (Kd.R_below R10_.out hb)
  clear R10_
  have R10_ := R10__
  clear R10__
  have M33__ := Aside0.mk (Kd.S_below M33_.out hb)
  clear M33_
  have M33_ := M33__
  clear M33__
  have F24__ := Aside0.mk (FullG.below F24_.out hb)
  clear F24_
  have F24_ := F24__
  clear F24__
  have F28__ := Aside0.mk (FullH.below F28_.out hb)
  clear F28_
  have F28_ := F28__
  clear F28__
  have HB_ := Aside0.mk (below_step HB.out hb)
  clear HB hb
  have HB := HB_
  clear HB_
  have F35_ := Aside0.mk (r_btw (b0 := w.heap.size) hf (by have := HB0.out; exact this))
  clear hf HB0
  go_wp2_with fail
  refine (HTB1.out _ (Kd.C_below HR1.out HB.out)).mono ?_
  rintro e w18_ ⟨A43_, c42_, rfl, hf, hb⟩
  have HB0 : Aside0 (w.heap.size ≤ w17_.heap.size) := ⟨HB.out.size⟩
  have HZ18 : Aside0 (w17_.heap.size ≤ w18_.heap.size) := ⟨hb.size⟩
  have F2__ := Aside0.mk (FullG.below F2_.out hb)
  clear F2_
  have F2_ := F2__
  clear F2__
  have F6__ := Aside0.mk (FullH.below F6_.out hb)
  clear F6_
  have F6_ := F6__
  clear F6__
  have R10__ := Aside0.mk (Kd.R_below R10_.out hb)
  clear R10_
  have R10_ := R10__
  clear R10__
  have M33__ := Aside0.mk (Kd.S_below M33_.out hb)
  clear M33_
  have M33_ := M33__
  clear M33__
  have F24__ := Aside0.mk (FullG.below F24_.out hb)
  clear F24_
  have F24_ := F24__
  clear F24__
  have F28__ := Aside0.mk (FullH.below F28_.out hb)
  clear F28_
  have F28_ := F28__
  clear F28__
  have F35__ := Aside0.mk (Kd.R_below F35_.out hb)
  clear F35_
  have F35_ := F35__
  clear F35__
  have HB_ := Aside0.mk (below_step HB.out hb)
  clear HB hb
  have HB := HB_
  clear HB_
  have F40_ := Aside0.mk (r_btw (b0 := w.heap.size) hf (by have := HB0.out; exact this))
  clear hf HB0
  go_wp2_with fail
  refine (impl_HousesLeft.callsS k2 A38_ c37_ l0 A43_ c42_ m1 r1 r2 _ (Kd.R_reads' F35_.out).2.2 (Kd.R_reads' F35_.out).2.1 (Kd.R_reads' F40_.out).2.2 (Kd.R_reads' F40_.out).2.1 HI.out).mono ?_
  rintro e w19_ ⟨v44_, rfl, ho0, hb⟩
  have HB0 : Aside0 (w.heap.size ≤ w18_.heap.size) := ⟨HB.out.size⟩
  have HZ19 : Aside0 (w18_.heap.size ≤ w19_.heap.size) := ⟨hb.size⟩
  have F2__ := Aside0.mk (FullG.below F2_.out hb)
  clear F2_
  have F2_ := F2__
  clear F2__
  have F6__ := Aside0.mk (FullH.below F6_.out hb)
  clear F6_
  have F6_ := F6__
  clear F6__
  have R10__ := Aside0.mk (Kd.R_below R10_.out hb)
  clear R10_
  have R10_ := R10__
  clear R10__
  have M33__ := Aside0.mk (Kd.S_below M33_.out hb)
  clear M33_
  have M33_ := M33__
  clear M33__
  have F24__ := Aside0.mk (FullG.below F24_.out hb)
  clear F24_
  have F24_ := F24__
  clear F24__
  have F28__ := Aside0.mk (FullH.below F28_.out hb)
  clear F28_
  have F28_ := F28__
  clear F28__
  have F35__ := Aside0.mk (Kd.R_below F35_.out hb)
  clear F35_
  have F35_ := F35__
  clear F35__
  have F40__ := Aside0.mk (Kd.R_below F40_.out hb)
  clear F40_
  have F40_ := F40__
  clear F40__
  have HB_ := Aside0.mk (below_step HB.out hb)
  clear HB hb
  have HB := HB_
  clear HB_
  obtain ⟨A46_, c47_, hv_⟩ := Kd.S_slice ho0
  subst hv_
  have R45_ := Aside0.mk (s_btw (b0 := w.heap.size) ho0 (by have := HB0.out; exact this))
  clear ho0
  clear HB0
  go_wp2_with fail
  refine (eqIntSS_alike _ _ _ _ _ _ (Kd.S_reads' R45_.out).2.2 (Kd.S_reads' R45_.out).2.1 (Kd.R_reads' R10_.out).2.2 (Kd.R_reads' R10_.out).2.1 HBD_r1.out).mono ?_
  rintro e w20_ ⟨rfl, hb⟩
  have HZ20 : Aside0 (w19_.heap.size ≤ w20_.heap.size) := ⟨hb.size⟩
  have F2__ := Aside0.mk (FullG.below F2_.out hb)
  clear F2_
  have F2_ := F2__
  clear F2__
  have F6__ := Aside0.mk (FullH.below F6_.out hb)
  clear F6_
  have F6_ := F6__
  clear F6__
  have R10__ := Aside0.mk (Kd.R_below R10_.out hb)
  clear R10_
  have R10_ := R10__
  clear R10__
  have M33__ := Aside0.mk (Kd.S_below M33_.out hb)
  clear M33_
  have M33_ := M33__
  clear M33__
  have F24__ := Aside0.mk (FullG.below F24_.out hb)
  clear F24_
  have F24_ := F24__
  clear F24__
  have F28__ := Aside0.mk (FullH.below F28_.out hb)
  clear F28_
  have F28_ := F28__
  clear F28__
  have F35__ := Aside0.mk (Kd.R_below F35_.out hb)
  clear F35_
  have F35_ := F35__
  clear F35__
  have F40__ := Aside0.mk (Kd.R_below F40_.out hb)
  clear F40_
  have F40_ := F40__
  clear F40__
  have R45__ := Aside0.mk (Kd.S_below R45_.out hb)
  clear R45_
  have R45_ := R45__
  clear R45__
  have HB_ := Aside0.mk (below_step HB.out hb)
  clear HB hb
  have HB := HB_
  clear HB_
  go_wp2_with fail
  refine (heldIntSS_own _ _ _ _ 101 _ _ M33_.out HBD_r1.out (by omega) (by omega)).mono ?_
  rintro e w21_ ⟨rfl, hd⟩
  have hb := hd.below
  clear hd
  have HZ21 : Aside0 (w20_.heap.size ≤ w21_.heap.size) := ⟨hb.size⟩
  have F2__ := Aside0.mk (FullG.below F2_.out hb)
  clear F2_
  have F2_ := F2__
  clear F2__
  have F6__ := Aside0.mk (FullH.below F6_.out hb)
  clear F6_
  have F6_ := F6__
  clear F6__
  have R10__ := Aside0.mk (Kd.R_below R10_.out hb)
  clear R10_
  have R10_ := R10__
  clear R10__
  have M33__ := Aside0.mk (Kd.S_below M33_.out hb)
  clear M33_
  have M33_ := M33__
  clear M33__
  have F24__ := Aside0.mk (FullG.below F24_.out hb)
  clear F24_
  have F24_ := F24__
  clear F24__
  have F28__ := Aside0.mk (FullH.below F28_.out hb)
  clear F28_
  have F28_ := F28__
  clear F28__
  have F35__ := Aside0.mk (Kd.R_below F35_.out hb)
  clear F35_
  have F35_ := F35__
  clear F35__
  have F40__ := Aside0.mk (Kd.R_below F40_.out hb)
  clear F40_
  have F40_ := F40__
  clear F40__
  have R45__ := Aside0.mk (Kd.S_below R45_.out hb)
  clear R45_
  have R45_ := R45__
  clear R45__
  have HB_ := Aside0.mk (below_step HB.out hb)
  clear HB hb
  have HB := HB_
  clear HB_
  go_wp2
  go_ret
  exact ⟨rfl, HB.out⟩
set_option maxHeartbeats 4000000 in
set_option maxRecDepth 100000 in
theorem laws_FnExactHousesLeft.walk (P : laws_FnExactHousesLeft.Pure) (a0 : Option Addr) (len0 cap0 : Nat) (z0 : List Int) (a1 : Option Addr) (len1 cap1 : Nat) (z1 : List S50) (w : World) (w0 : (a0 = none ∧ len0 = 0 ∧ cap0 = 0 ∧ z0 = []) ∨ ∃ x, a0 = some x ∧ len0 ≤ cap0 ∧ cap0 ≤ maxLen ∧ z0.length = cap0 ∧ (∀ i, i < z0.length → w.cell? (x.add i) = some (.int .i64 (z0.getD i 0))) ∧ ∀ n ∈ z0, (Lit.int .i64 n).wf = true) (y0 : len0 * 8 ≤ 140737488351232) (w1 : z1.length = len1 ∧ len1 ≤ cap1 ∧ Kd.C k50 w a1 len1 z1) (y1 : len1 * 24 ≤ 140737488351232) :
    Calls Try.prog 7 #[.slice a0 len0 cap0, .slice a1 len1 cap1] w fun e w' => e = .returned (.bool true) ∧ Below w.heap.size w w' := by
  obtain ⟨l0, rfl, hr0, hm0, hw0, hc0⟩ := ReadsInt.ofRowC w0
  obtain ⟨rfl, hc1, hr1⟩ := w1
  obtain ⟨l1, rfl⟩ : ∃ l, l = z1 := ⟨_, rfl⟩
  by_cases hl : l0.length + l1.length ≤ 1000000
  · obtain ⟨k2, r1, r2, hs, hi, hb_r1⟩ := P l0 (l1.map cvH) hw0  (by simpa using hl)
    exact laws_FnExactHousesLeft.alike k2 _ _ l0 _ _ l1 r1 r2 w (Kd.C_of_reads (d := (0 : Int)) (h1 := fun _ => rfl) hr0) hc0 hr1 hc1 hl hs hi hb_r1
  · have HR1 := Aside0.mk hr1
    have HC1 := Aside0.mk hc1
    have hsz_ : IntKind.i64.wrap (1000000 - (l0.length : Int)) = 1000000 - (l0.length : Int) := by rw [i64_w]; unfold wrap64; omega
    have HSZ := Aside0.mk (szHouseDropS_is l1 (1000000 - (l0.length : Int)) (by clear hsz_; omega) (by clear hsz_; omega) (by clear hsz_; omega))
    rw [if_pos (by clear hsz_; omega)] at HSZ
    clear hm0 hw0
    clear hr0 hc0 hr1 hc1
    go_enter Try.func7, Try.ntmps7
    go_wp2_with (go_at_call 18; refine (laws_szHouseDropS.calls0 _ _ _ _ _ _ HR1.out HC1.out HSZ.out).mono ?_; rintro e_ w2_ ⟨rfl, rfl⟩)
    go_ret
    exact ⟨rfl, Below.refl _ _⟩


end Go.Proofs.Ytkflioekhadebaa.PrintA
