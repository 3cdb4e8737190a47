-- written by this session's own driver (wip/gen.py) with the kit's print and contracts of our own
import Derived.Test.YtiahedkmlacpkaaPrintZ0
import Derived.Test.YtiahedkmlacpkaaPrintZ1
import Derived.Test.YtiahedkmlacpkaaPrintZ6
import Derived.Test.YtiahedkmlacpkaaPrintZ8
import Derived.Test.YtiahedkmlacpkaaPrintZ10
import Derived.Test.YtiahedkmlacpkaaPrintZ11
namespace Go.Proofs.Ytiahedkmlacpkaa.PrintZ
open Go.RowKit Go.Proofs.YtiahedkmlacpkaaW.PrintWords Go.Proofs.YtiahedkmlacpkaaW.PrintLast Go.Proofs.YtiahedkmlacpkaaW.PrintMore
attribute [local go_sem] max2_int min2_int max_two min_two max_three min_three max_four min_four   -- for this text's walks alone
set_option linter.unusedVariables false
set_option linter.unusedSimpArgs false

/-! ### laws_FnExactSharedTests: function 7, a law -/
/-- THE ONE PURE STATEMENT of laws_FnExactSharedTests. -/
def laws_FnExactSharedTests.Pure : Prop := ∀ (l0 : List Int) (l1 : List Int), (∀ x ∈ l0, (Lit.int .i64 x).wf = true) → (∀ x ∈ l1, (Lit.int .i64 x).wf = true) → l0.length + l1.length ≤ 1000000 → ∃ (k1 : Nat) (r1 : Int) (r2 : Bool), spec_SharedTests.f k1 l0 l1 = some (r1, r2) ∧ impl_SharedTests.f l0 l1 = some (r1, r2)
set_option maxHeartbeats 8000000 in
set_option maxRecDepth 100000 in
theorem laws_FnExactSharedTests.alike (k1 : Nat) (A0 : Option Addr) (c0 : Nat) (l0 : List Int) (A1 : Option Addr) (c1 : Nat) (l1 : List Int) (r1 : Int) (r2 : Bool) (w : World) (hr0 : Kd.C (Kd.int .i64) w A0 l0.length l0) (hc0 : l0.length ≤ c0) (hr1 : Kd.C (Kd.int .i64) w A1 l1.length l1) (hc1 : l1.length ≤ c1) (hl : l0.length + l1.length ≤ 1000000) (hs : spec_SharedTests.f k1 l0 l1 = some (r1, r2)) (hi : impl_SharedTests.f l0 l1 = some (r1, r2)) :
    Calls Try.prog 7 #[.slice A0 l0.length c0, .slice A1 l1.length c1] w fun e w' => e = .returned (.bool true) ∧ Below w.heap.size w w' := by
  have HR0 := Aside0.mk hr0
  have HC0 := Aside0.mk hc0
  clear hr0 hc0
  have HL0 : Aside0 (l0.length ≤ 1000000) := ⟨by omega⟩
  have HR1 := Aside0.mk hr1
  have HC1 := Aside0.mk hc1
  clear hr1 hc1
  have HL1 : Aside0 (l1.length ≤ 1000000) := ⟨by omega⟩
  have HS := Aside0.mk hs
  have HI := Aside0.mk hi
  clear hs hi
  have HB := Aside0.mk (Below.refl w.heap.size w)
  go_enter Try.func7, Try.ntmps7
  go_wp2_with fail
  refine (toIntS_full _ c0 l0 _ (Kd.C_below HR0.out HB.out) HL0.out).mono ?_
  rintro e w1_ ⟨g3_, c4_, rfl, hf, hb⟩
  have HB0 : Aside0 (w.heap.size ≤ w.heap.size) := ⟨HB.out.size⟩
  have HZ1 : Aside0 (w.heap.size ≤ w1_.heap.size) := ⟨hb.size⟩
  have HB_ := Aside0.mk (below_step HB.out hb)
  clear HB hb
  have HB := HB_
  clear HB_
  have F2_ := Aside0.mk (show FullG w1_ w.heap.size (Btw w.heap.size w1_.heap.size) _ _ _ from r_btw hf (by have := HB0.out; exact this))
  clear hf HB0
  go_wp2_with fail
  refine (toIntS_full _ c1 l1 _ (Kd.C_below HR1.out HB.out) HL1.out).mono ?_
  rintro e w2_ ⟨g7_, c8_, rfl, hf, hb⟩
  have HB0 : Aside0 (w.heap.size ≤ w1_.heap.size) := ⟨HB.out.size⟩
  have HZ2 : Aside0 (w1_.heap.size ≤ w2_.heap.size) := ⟨hb.size⟩
  have F2__ := Aside0.mk (FullG.below F2_.out hb)
  clear F2_
  have F2_ := F2__
  clear F2__
  have HB_ := Aside0.mk (below_step HB.out hb)
  clear HB hb
  have HB := HB_
  clear HB_
  have F6_ := Aside0.mk (show FullG w2_ w.heap.size (Btw w1_.heap.size w2_.heap.size) _ _ _ from r_btw hf (by have := HB0.out; exact this))
  clear hf HB0
  go_wp2_with fail
  refine (spec_SharedTests.calls k1 (some ⟨g3_, 0, none⟩) c4_ l0 (some ⟨g7_, 0, none⟩) c8_ l1 r1 r2 _ (FullG.reads F2_.out).2 (FullG.reads F2_.out).1 (FullG.reads F6_.out).2 (FullG.reads F6_.out).1 HS.out).mono ?_
  rintro e w3_ ⟨rfl, hb⟩
  have HB0 : Aside0 (w.heap.size ≤ w2_.heap.size) := ⟨HB.out.size⟩
  have HZ3 : Aside0 (w2_.heap.size ≤ w3_.heap.size) := ⟨hb.size⟩
  have F2__ := Aside0.mk (FullG.below F2_.out hb)
  clear F2_
  have F2_ := F2__
  clear F2__
  have F6__ := Aside0.mk (FullG.below F6_.out hb)
  clear F6_
  have F6_ := F6__
  clear F6__
  have HB_ := Aside0.mk (below_step HB.out hb)
  clear HB hb
  have HB := HB_
  clear HB_
  clear HB0
  go_wp2_with fail
  refine (toIntS_full _ c0 l0 _ (Kd.C_below HR0.out HB.out) HL0.out).mono ?_
  rintro e w4_ ⟨g10_, c11_, rfl, hf, hb⟩
  have HB0 : Aside0 (w.heap.size ≤ w3_.heap.size) := ⟨HB.out.size⟩
  have HZ4 : Aside0 (w3_.heap.size ≤ w4_.heap.size) := ⟨hb.size⟩
  have F2__ := Aside0.mk (FullG.below F2_.out hb)
  clear F2_
  have F2_ := F2__
  clear F2__
  have F6__ := Aside0.mk (FullG.below F6_.out hb)
  clear F6_
  have F6_ := F6__
  clear F6__
  have HB_ := Aside0.mk (below_step HB.out hb)
  clear HB hb
  have HB := HB_
  clear HB_
  have F9_ := Aside0.mk (show FullG w4_ w.heap.size (Btw w3_.heap.size w4_.heap.size) _ _ _ from r_btw hf (by have := HB0.out; exact this))
  clear hf HB0
  go_wp2_with fail
  refine (toIntS_full _ c1 l1 _ (Kd.C_below HR1.out HB.out) HL1.out).mono ?_
  rintro e w5_ ⟨g13_, c14_, rfl, hf, hb⟩
  have HB0 : Aside0 (w.heap.size ≤ w4_.heap.size) := ⟨HB.out.size⟩
  have HZ5 : Aside0 (w4_.heap.size ≤ w5_.heap.size) := ⟨hb.size⟩
  have F2__ := Aside0.mk (FullG.below F2_.out hb)
  clear F2_
  have F2_ := F2__
  clear F2__
  have F6__ := Aside0.mk (FullG.below F6_.out hb)
  clear F6_
  have F6_ := F6__
  clear F6__
  have F9__ := Aside0.mk (FullG.below F9_.out hb)
  clear F9_
  have F9_ := F9__
  clear F9__
  have HB_ := Aside0.mk (below_step HB.out hb)
  clear HB hb
  have HB := HB_
  clear HB_
  have F12_ := Aside0.mk (show FullG w5_ w.heap.size (Btw w4_.heap.size w5_.heap.size) _ _ _ from r_btw hf (by have := HB0.out; exact this))
  clear hf HB0
  go_wp2_with fail
  refine (impl_SharedTests.calls (some ⟨g10_, 0, none⟩) c11_ l0 (some ⟨g13_, 0, none⟩) c14_ l1 r1 r2 _ (FullG.reads F9_.out).2 (FullG.reads F9_.out).1 (FullG.reads F12_.out).2 (FullG.reads F12_.out).1 HI.out).mono ?_
  rintro e w6_ ⟨rfl, hb⟩
  have HB0 : Aside0 (w.heap.size ≤ w5_.heap.size) := ⟨HB.out.size⟩
  have HZ6 : Aside0 (w5_.heap.size ≤ w6_.heap.size) := ⟨hb.size⟩
  have F2__ := Aside0.mk (FullG.below F2_.out hb)
  clear F2_
  have F2_ := F2__
  clear F2__
  have F6__ := Aside0.mk (FullG.below F6_.out hb)
  clear F6_
  have F6_ := F6__
  clear F6__
  have F9__ := Aside0.mk (FullG.below F9_.out hb)
  clear F9_
  have F9_ := F9__
  clear F9__
  have F12__ := Aside0.mk (FullG.below F12_.out hb)
  clear F12_
  have F12_ := F12__
  clear F12__
  have HB_ := Aside0.mk (below_step HB.out hb)
  clear HB hb
  have HB := HB_
  clear HB_
  clear HB0
  go_wp2_with fail
  refine (toIntS_full _ c0 l0 _ (Kd.C_below HR0.out HB.out) HL0.out).mono ?_
  rintro e w7_ ⟨g17_, c18_, rfl, hf, hb⟩
  have HB0 : Aside0 (w.heap.size ≤ w6_.heap.size) := ⟨HB.out.size⟩
  have HZ7 : Aside0 (w6_.heap.size ≤ w7_.heap.size) := ⟨hb.size⟩
  have F2__ := Aside0.mk (FullG.below F2_.out hb)
  clear F2_
  have F2_ := F2__
  clear F2__
  have F6__ := Aside0.mk (FullG.below F6_.out hb)
  clear F6_
  have F6_ := F6__
  clear F6__
  have F9__ := Aside0.mk (FullG.below F9_.out hb)
  clear F9_
  have F9_ := F9__
  clear F9__
  have F12__ := Aside0.mk (FullG.below F12_.out hb)
  clear F12_
  have F12_ := F12__
  clear F12__
  have HB_ := Aside0.mk (below_step HB.out hb)
  clear HB hb
  have HB := HB_
  clear HB_
  have F16_ := Aside0.mk (show FullG w7_ w.heap.size (Btw w6_.heap.size w7_.heap.size) _ _ _ from r_btw hf (by have := HB0.out; exact this))
  clear hf HB0
  go_wp2_with fail
  refine (intactIntS_full _ _ _ _ _ _ _ _ _ _ F9_.out F16_.out HL0.out).mono ?_
  rintro e w8_ ⟨rfl, hd⟩
  have hb := hd.below
  clear hd
  have HZ8 : Aside0 (w7_.heap.size ≤ w8_.heap.size) := ⟨hb.size⟩
  have F2__ := Aside0.mk (FullG.below F2_.out hb)
  clear F2_
  have F2_ := F2__
  clear F2__
  have F6__ := Aside0.mk (FullG.below F6_.out hb)
  clear F6_
  have F6_ := F6__
  clear F6__
  have F9__ := Aside0.mk (FullG.below F9_.out hb)
  clear F9_
  have F9_ := F9__
  clear F9__
  have F12__ := Aside0.mk (FullG.below F12_.out hb)
  clear F12_
  have F12_ := F12__
  clear F12__
  have F16__ := Aside0.mk (FullG.below F16_.out hb)
  clear F16_
  have F16_ := F16__
  clear F16__
  have HB_ := Aside0.mk (below_step HB.out hb)
  clear HB hb
  have HB := HB_
  clear HB_
  go_wp2_with fail
  refine (toIntS_full _ c1 l1 _ (Kd.C_below HR1.out HB.out) HL1.out).mono ?_
  rintro e w9_ ⟨g21_, c22_, rfl, hf, hb⟩
  have HB0 : Aside0 (w.heap.size ≤ w8_.heap.size) := ⟨HB.out.size⟩
  have HZ9 : Aside0 (w8_.heap.size ≤ w9_.heap.size) := ⟨hb.size⟩
  have F2__ := Aside0.mk (FullG.below F2_.out hb)
  clear F2_
  have F2_ := F2__
  clear F2__
  have F6__ := Aside0.mk (FullG.below F6_.out hb)
  clear F6_
  have F6_ := F6__
  clear F6__
  have F9__ := Aside0.mk (FullG.below F9_.out hb)
  clear F9_
  have F9_ := F9__
  clear F9__
  have F12__ := Aside0.mk (FullG.below F12_.out hb)
  clear F12_
  have F12_ := F12__
  clear F12__
  have F16__ := Aside0.mk (FullG.below F16_.out hb)
  clear F16_
  have F16_ := F16__
  clear F16__
  have HB_ := Aside0.mk (below_step HB.out hb)
  clear HB hb
  have HB := HB_
  clear HB_
  have F20_ := Aside0.mk (show FullG w9_ w.heap.size (Btw w8_.heap.size w9_.heap.size) _ _ _ from r_btw hf (by have := HB0.out; exact this))
  clear hf HB0
  go_wp2_with fail
  refine (intactIntS_full _ _ _ _ _ _ _ _ _ _ F12_.out F20_.out HL1.out).mono ?_
  rintro e w10_ ⟨rfl, hd⟩
  have hb := hd.below
  clear hd
  have HZ10 : Aside0 (w9_.heap.size ≤ w10_.heap.size) := ⟨hb.size⟩
  have F2__ := Aside0.mk (FullG.below F2_.out hb)
  clear F2_
  have F2_ := F2__
  clear F2__
  have F6__ := Aside0.mk (FullG.below F6_.out hb)
  clear F6_
  have F6_ := F6__
  clear F6__
  have F9__ := Aside0.mk (FullG.below F9_.out hb)
  clear F9_
  have F9_ := F9__
  clear F9__
  have F12__ := Aside0.mk (FullG.below F12_.out hb)
  clear F12_
  have F12_ := F12__
  clear F12__
  have F16__ := Aside0.mk (FullG.below F16_.out hb)
  clear F16_
  have F16_ := F16__
  clear F16__
  have F20__ := Aside0.mk (FullG.below F20_.out hb)
  clear F20_
  have F20_ := F20__
  clear F20__
  have HB_ := Aside0.mk (below_step HB.out hb)
  clear HB hb
  have HB := HB_
  clear HB_
  go_wp2_with fail
  refine (toIntS_bare _ c0 l0 _ (Kd.C_below HR0.out HB.out) HL0.out).mono ?_
  rintro e w11_ ⟨A27_, c26_, rfl, hf, hb⟩
  have HB0 : Aside0 (w.heap.size ≤ w10_.heap.size) := ⟨HB.out.size⟩
  have HZ11 : Aside0 (w10_.heap.size ≤ w11_.heap.size) := ⟨hb.size⟩
  have F2__ := Aside0.mk (FullG.below F2_.out hb)
  clear F2_
  have F2_ := F2__
  clear F2__
  have F6__ := Aside0.mk (FullG.below F6_.out hb)
  clear F6_
  have F6_ := F6__
  clear F6__
  have F9__ := Aside0.mk (FullG.below F9_.out hb)
  clear F9_
  have F9_ := F9__
  clear F9__
  have F12__ := Aside0.mk (FullG.below F12_.out hb)
  clear F12_
  have F12_ := F12__
  clear F12__
  have F16__ := Aside0.mk (FullG.below F16_.out hb)
  clear F16_
  have F16_ := F16__
  clear F16__
  have F20__ := Aside0.mk (FullG.below F20_.out hb)
  clear F20_
  have F20_ := F20__
  clear F20__
  have HB_ := Aside0.mk (below_step HB.out hb)
  clear HB hb
  have HB := HB_
  clear HB_
  have F24_ := Aside0.mk (r_btw (b0 := w.heap.size) hf (by have := HB0.out; exact this))
  clear hf HB0
  go_wp2_with fail
  refine (toIntS_bare _ c1 l1 _ (Kd.C_below HR1.out HB.out) HL1.out).mono ?_
  rintro e w12_ ⟨A32_, c31_, rfl, hf, hb⟩
  have HB0 : Aside0 (w.heap.size ≤ w11_.heap.size) := ⟨HB.out.size⟩
  have HZ12 : Aside0 (w11_.heap.size ≤ w12_.heap.size) := ⟨hb.size⟩
  have F2__ := Aside0.mk (FullG.below F2_.out hb)
  clear F2_
  have F2_ := F2__
  clear F2__
  have F6__ := Aside0.mk (FullG.below F6_.out hb)
  clear F6_
  have F6_ := F6__
  clear F6__
  have F9__ := Aside0.mk (FullG.below F9_.out hb)
  clear F9_
  have F9_ := F9__
  clear F9__
  have F12__ := Aside0.mk (FullG.below F12_.out hb)
  clear F12_
  have F12_ := F12__
  clear F12__
  have F16__ := Aside0.mk (FullG.below F16_.out hb)
  clear F16_
  have F16_ := F16__
  clear F16__
  have F20__ := Aside0.mk (FullG.below F20_.out hb)
  clear F20_
  have F20_ := F20__
  clear F20__
  have F24__ := Aside0.mk (Kd.R_below F24_.out hb)
  clear F24_
  have F24_ := F24__
  clear F24__
  have HB_ := Aside0.mk (below_step HB.out hb)
  clear HB hb
  have HB := HB_
  clear HB_
  have F29_ := Aside0.mk (r_btw (b0 := w.heap.size) hf (by have := HB0.out; exact this))
  clear hf HB0
  go_wp2_with fail
  refine (impl_SharedTests.calls A27_ c26_ l0 A32_ c31_ l1 r1 r2 _ (Kd.R_reads' F24_.out).2.2 (Kd.R_reads' F24_.out).2.1 (Kd.R_reads' F29_.out).2.2 (Kd.R_reads' F29_.out).2.1 HI.out).mono ?_
  rintro e w13_ ⟨rfl, hb⟩
  have HB0 : Aside0 (w.heap.size ≤ w12_.heap.size) := ⟨HB.out.size⟩
  have HZ13 : Aside0 (w12_.heap.size ≤ w13_.heap.size) := ⟨hb.size⟩
  have F2__ := Aside0.mk (FullG.below F2_.out hb)
  clear F2_
  have F2_ := F2__
  clear F2__
  have F6__ := Aside0.mk (FullG.below F6_.out hb)
  clear F6_
  have F6_ := F6__
  clear F6__
  have F9__ := Aside0.mk (FullG.below F9_.out hb)
  clear F9_
  have F9_ := F9__
  clear F9__
  have F12__ := Aside0.mk (FullG.below F12_.out hb)
  clear F12_
  have F12_ := F12__
  clear F12__
  have F16__ := Aside0.mk (FullG.below F16_.out hb)
  clear F16_
  have F16_ := F16__
  clear F16__
  have F20__ := Aside0.mk (FullG.below F20_.out hb)
  clear F20_
  have F20_ := F20__
  clear F20__
  have F24__ := Aside0.mk (Kd.R_below F24_.out hb)
  clear F24_
  have F24_ := F24__
  clear F24__
  have F29__ := Aside0.mk (Kd.R_below F29_.out hb)
  clear F29_
  have F29_ := F29__
  clear F29__
  have HB_ := Aside0.mk (below_step HB.out hb)
  clear HB hb
  have HB := HB_
  clear HB_
  clear HB0
  go_wp2
  go_ret
  exact ⟨rfl, HB.out⟩
set_option maxHeartbeats 4000000 in
set_option maxRecDepth 100000 in
theorem laws_FnExactSharedTests.walk (P : laws_FnExactSharedTests.Pure) (a0 : Option Addr) (len0 cap0 : Nat) (z0 : List Int) (a1 : Option Addr) (len1 cap1 : Nat) (z1 : List Int) (w : World) (w0 : (a0 = none ∧ len0 = 0 ∧ cap0 = 0 ∧ z0 = []) ∨ ∃ x, a0 = some x ∧ len0 ≤ cap0 ∧ cap0 ≤ maxLen ∧ z0.length = cap0 ∧ (∀ i, i < z0.length → w.cell? (x.add i) = some (.int .i64 (z0.getD i 0))) ∧ ∀ n ∈ z0, (Lit.int .i64 n).wf = true) (y0 : len0 * 8 ≤ 140737488351232) (w1 : (a1 = none ∧ len1 = 0 ∧ cap1 = 0 ∧ z1 = []) ∨ ∃ x, a1 = some x ∧ len1 ≤ cap1 ∧ cap1 ≤ maxLen ∧ z1.length = cap1 ∧ (∀ i, i < z1.length → w.cell? (x.add i) = some (.int .i64 (z1.getD i 0))) ∧ ∀ n ∈ z1, (Lit.int .i64 n).wf = true) (y1 : len1 * 8 ≤ 140737488351232) :
    Calls Try.prog 7 #[.slice a0 len0 cap0, .slice a1 len1 cap1] w fun e w' => e = .returned (.bool true) ∧ Below w.heap.size w w' := by
  obtain ⟨l0, rfl, hr0, hm0, hw0, hc0⟩ := ReadsInt.ofRowC w0
  obtain ⟨l1, rfl, hr1, hm1, hw1, hc1⟩ := ReadsInt.ofRowC w1
  by_cases hl : l0.length + l1.length ≤ 1000000
  · obtain ⟨k1, r1, r2, hs, hi⟩ := P l0 l1 hw0 hw1 hl
    exact laws_FnExactSharedTests.alike k1  _ _ l0 _ _ l1 r1 r2 w (Kd.C_of_reads (d := (0 : Int)) (h1 := fun _ => rfl) hr0) hc0 (Kd.C_of_reads (d := (0 : Int)) (h1 := fun _ => rfl) hr1) hc1 hl hs hi
  · clear hr0 hc0 hr1 hc1
    go_enter Try.func7, Try.ntmps7
    go_wp2
    go_ret
    exact ⟨rfl, Below.refl _ _⟩


end Go.Proofs.Ytiahedkmlacpkaa.PrintZ
