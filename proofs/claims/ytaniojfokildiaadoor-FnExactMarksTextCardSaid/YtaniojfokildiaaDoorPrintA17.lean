-- written by this session's own driver (wip/gen.py) with the kit's print and contracts of our own
import Derived.Test.YtaniojfokildiaaDoorPrintA0
import Derived.Test.YtaniojfokildiaaDoorPrintA1
import Derived.Test.YtaniojfokildiaaDoorPrintA3
import Derived.Test.YtaniojfokildiaaDoorPrintA4
import Derived.Test.YtaniojfokildiaaDoorPrintA11
import Derived.Test.YtaniojfokildiaaDoorPrintA15
import Derived.Test.YtaniojfokildiaaDoorPrintA16
namespace Go.Proofs.YtaniojfokildiaaDoor.PrintA
open Go.RowKit Go.Proofs.YtaniojfokildiaaDoorLib Go.Proofs.YtaniojfokildiaaDoorW.PrintWords Go.Proofs.YtaniojfokildiaaDoorW.PrintLast Go.Proofs.YtaniojfokildiaaDoorW.PrintMore
attribute [local go_sem] max2_int min2_int max_two min_two max_three min_three max_four min_four   -- for this text's walks alone
set_option linter.unusedVariables false
set_option linter.unusedSimpArgs false

/-! ### impl_MarksText: function 13 -/
def impl_MarksText.f (k : Nat) (l0 : List Int) : Option (ByteArray × Bool) := (impl_AreMarks.f k 100 l0).bind fun t176 => (if t176 = true then ((impl_numbersText.f k l0 (⟨#[45]⟩ : ByteArray)).bind fun t177 => (some (t177, true))) else (some ((⟨#[]⟩ : ByteArray), false)))
theorem impl_MarksText.mono : ∀ a0 k, LeO (impl_MarksText.f k a0) (impl_MarksText.f (k + 1) a0) := by
  intro a0 k
  unfold impl_MarksText.f
  repeat' first
      | (with_reducible exact impl_AreMarks.mono _ _ _)
      | (with_reducible exact impl_numbersText.mono _ _ _)
      | (with_reducible exact LeO.refl _)
      | (with_reducible exact LeO.none _)
      | (with_reducible refine LeO.ite ?_ ?_)
      | (with_reducible refine LeO.bind ?_ (fun _ => ?_))
      | exact impl_AreMarks.mono _ _ _
      | exact impl_numbersText.mono _ _ _
      | exact LeO.none _
      | refine LeO.ite ?_ ?_
      | refine LeO.bind ?_ (fun _ => ?_)
set_option maxHeartbeats 8000000 in
set_option maxRecDepth 100000 in
theorem impl_MarksText.calls (k : Nat) (A0 : Option Addr) (c0 : Nat) (l0 : List Int) (r1 : ByteArray) (r2 : Bool) (w : World) (hr0 : Kd.C (Kd.int .i64) w A0 l0.length l0) (hc0 : l0.length ≤ c0) (h : impl_MarksText.f k l0 = some (r1, r2)) (ht : Tabs w) :
    Calls Tryd.prog 13 #[.slice A0 l0.length c0] w fun e w' => e = .returned (.tuple #[.string r1, .bool r2]) ∧ Below w.heap.size w w' := by
  have HT := Aside0.mk ht
  clear ht
  have HR0 := Aside0.mk hr0
  have HC0 := Aside0.mk hc0
  clear hr0 hc0
  have HB := Aside0.mk (Below.refl w.heap.size w)
  have H : ((impl_AreMarks.f k 100 l0).bind fun t176 => (if t176 = true then ((impl_numbersText.f k l0 (⟨#[45]⟩ : ByteArray)).bind fun t177 => (some (t177, true))) else (some ((⟨#[]⟩ : ByteArray), false)))) = some (r1, r2) := h
  clear h
  replace H := Option.bind_eq_some_iff.mp H
  obtain ⟨t176, A20, H⟩ := H
  replace H : (if t176 = true then ((impl_numbersText.f k l0 (⟨#[45]⟩ : ByteArray)).bind fun t177 => (some (t177, true))) else (some ((⟨#[]⟩ : ByteArray), false))) = some (r1, r2) := H
  have A2 := Aside0.mk A20
  clear A20
  by_cases c3 : t176 = true
  · subst c3
    have H1 : ((impl_numbersText.f k l0 (⟨#[45]⟩ : ByteArray)).bind fun t177 => (some (t177, true))) = some (r1, r2) := by rw [if_pos rfl] at H; exact H
    clear H
    have H := H1
    clear H1
    replace H := Option.bind_eq_some_iff.mp H
    obtain ⟨t177, A40, H⟩ := H
    replace H : (some (t177, true)) = some (r1, r2) := H
    have A4 := Aside0.mk A40
    clear A40
    simp only [Option.some.injEq, Prod.mk.injEq] at H
    obtain ⟨rfl, rfl⟩ := H
    go_enter Tryd.func13, Tryd.ntmps13
    go_wp2_with (first | ((with_reducible refine gate_callee (f := 19) rfl ?_); refine goesL_ (some 5) rfl rfl Tryd.func19 (by kernel_rfl) rfl #[.int .i64 100, .slice A0 l0.length c0] rfl (by (try simp only [List.map_toArray, List.map_cons, List.map_nil]); first | done | rfl | (simp only [List.length_drop, List.length_take]; rfl)) ?_; (with_reducible refine (impl_AreMarks.calls k 100 _ _ l0 true _ ?side1 ?side2 A2.out).mono ?_); (case side1 => repeat (first | exact HR0.out | (with_reducible refine Kd.C_alloc ?_ _) | (with_reducible refine Kd.C_drewN ?_ _) | (with_reducible refine Kd.C_drew ?_))); (case side2 => exact HC0.out); rintro e w' ⟨rfl, ⟨nd, rfl⟩⟩; refine ⟨_, rfl, ?_⟩) | ((with_reducible refine gate_callee (f := 23) rfl ?_); refine goesL_ (some 8) rfl rfl Tryd.func23 (by kernel_rfl) rfl #[.slice A0 l0.length c0, .string (⟨#[45]⟩ : ByteArray)] rfl (by (try simp only [List.map_toArray, List.map_cons, List.map_nil]); first | done | rfl | (simp only [List.length_drop, List.length_take]; rfl)) ?_; (with_reducible refine (impl_numbersText.calls k _ _ l0 (⟨#[45]⟩ : ByteArray) t177 _ ?side1 ?side2 A4.out (HT.out.below ?hbP_)).mono ?_); (case hbP_ => exact (by repeat (first | (with_reducible first | exact HB.out | apply below_alloc | apply pw_below_drewN | apply below_drew1) | exact HB.out))); (case side1 => repeat (first | exact HR0.out | (with_reducible refine Kd.C_alloc ?_ _) | (with_reducible refine Kd.C_drewN ?_ _) | (with_reducible refine Kd.C_drew ?_))); (case side2 => exact HC0.out); rintro e w5 ⟨rfl, hb⟩; refine ⟨_, rfl, ?_⟩; have n0_ := Aside0.mk (below_step (by repeat (first | (with_reducible first | exact HB.out | apply below_alloc | apply pw_below_drewN | apply below_drew1) | exact HB.out)) hb); clear HB; have HB := n0_; clear n0_; (try clear hb); (try clear hb2); (try clear hk); (try clear hi)))
    go_ret2
    exact ⟨by first | rfl | (simp [errW_none, errW_some] <;> rfl) | (simp [*, errW_none, errW_some] <;> rfl), by repeat (first | (with_reducible first | exact HB.out | apply below_alloc | apply pw_below_drewN | apply below_drew1) | exact HB.out)⟩
  · replace c3 := Bool.eq_false_iff.mpr c3
    subst c3
    have H1 : (some ((⟨#[]⟩ : ByteArray), false)) = some (r1, r2) := by rw [if_neg (show ¬ (false = true) by decide)] at H; exact H
    clear H
    have H := H1
    clear H1
    simp only [Option.some.injEq, Prod.mk.injEq] at H
    obtain ⟨rfl, rfl⟩ := H
    go_enter Tryd.func13, Tryd.ntmps13
    go_wp2_with (first | ((with_reducible refine gate_callee (f := 19) rfl ?_); refine goesL_ (some 5) rfl rfl Tryd.func19 (by kernel_rfl) rfl #[.int .i64 100, .slice A0 l0.length c0] rfl (by (try simp only [List.map_toArray, List.map_cons, List.map_nil]); first | done | rfl | (simp only [List.length_drop, List.length_take]; rfl)) ?_; (with_reducible refine (impl_AreMarks.calls k 100 _ _ l0 false _ ?side1 ?side2 A2.out).mono ?_); (case side1 => repeat (first | exact HR0.out | (with_reducible refine Kd.C_alloc ?_ _) | (with_reducible refine Kd.C_drewN ?_ _) | (with_reducible refine Kd.C_drew ?_))); (case side2 => exact HC0.out); rintro e w' ⟨rfl, ⟨nd, rfl⟩⟩; refine ⟨_, rfl, ?_⟩))
    go_ret2
    exact ⟨by first | rfl | (simp [errW_none, errW_some] <;> rfl) | (simp [*, errW_none, errW_some] <;> rfl), by repeat (first | (with_reducible first | exact HB.out | apply below_alloc | apply pw_below_drewN | apply below_drew1) | exact HB.out)⟩

/-! ### laws_FnExactMarksText: function 4, a law -/
/-- THE ONE PURE STATEMENT of laws_FnExactMarksText. -/
def laws_FnExactMarksText.Pure : Prop := ∀ (l0 : List Int), (∀ x ∈ l0, (Lit.int .i64 x).wf = true) → l0.length ≤ 1000000 → ∃ (k1 : Nat) (k2 : Nat) (r1 : ByteArray) (r2 : Bool), spec_MarksText.f k1 l0 = some (r1, r2) ∧ impl_MarksText.f k2 l0 = some (r1, r2)
set_option maxHeartbeats 8000000 in
set_option maxRecDepth 100000 in
theorem laws_FnExactMarksText.alike (k1 : Nat) (k2 : Nat) (A0 : Option Addr) (c0 : Nat) (l0 : List Int) (r1 : ByteArray) (r2 : Bool) (w : World) (hr0 : Kd.C (Kd.int .i64) w A0 l0.length l0) (hc0 : l0.length ≤ c0) (hl : l0.length ≤ 1000000) (hs : spec_MarksText.f k1 l0 = some (r1, r2)) (hi : impl_MarksText.f k2 l0 = some (r1, r2)) (ht : Tabs w) :
    Calls Tryd.prog 4 #[.slice A0 l0.length c0] w fun e w' => e = .returned (.bool true) ∧ Below w.heap.size w w' := by
  have HR0 := Aside0.mk hr0
  have HC0 := Aside0.mk hc0
  clear hr0 hc0
  have HL0 : Aside0 (l0.length ≤ 1000000) := ⟨by omega⟩
  have HS := Aside0.mk hs
  have HI := Aside0.mk hi
  clear hs hi
  have HT := Aside0.mk ht
  clear ht
  have HB := Aside0.mk (Below.refl w.heap.size w)
  go_enter Tryd.func4, Tryd.ntmps4
  go_wp2_with fail
  refine (toIntS_full _ c0 l0 _ (Kd.C_below HR0.out HB.out) HL0.out).mono ?_
  rintro e w1_ ⟨g3_, c4_, rfl, hf, hb⟩
  have HB0 : Aside0 (w.heap.size ≤ w.heap.size) := ⟨HB.out.size⟩
  have HZ1 : Aside0 (w.heap.size ≤ w1_.heap.size) := ⟨hb.size⟩
  have HB_ := Aside0.mk (below_step HB.out hb)
  clear HB hb
  have HB := HB_
  clear HB_
  have F2_ := Aside0.mk (show FullG w1_ w.heap.size (Btw w.heap.size w1_.heap.size) _ _ _ from r_btw hf (by have := HB0.out; exact this))
  clear hf HB0
  go_wp2_with fail
  refine (spec_MarksText.calls k1 (some ⟨g3_, 0, none⟩) c4_ l0 r1 r2 _ (FullG.reads F2_.out).2 (FullG.reads F2_.out).1 HS.out).mono ?_
  rintro e w2_ ⟨rfl, hb⟩
  have HB0 : Aside0 (w.heap.size ≤ w1_.heap.size) := ⟨HB.out.size⟩
  have HZ2 : Aside0 (w1_.heap.size ≤ w2_.heap.size) := ⟨hb.size⟩
  have F2__ := Aside0.mk (FullG.below F2_.out hb)
  clear F2_
  have F2_ := F2__
  clear F2__
  have HB_ := Aside0.mk (below_step HB.out hb)
  clear HB hb
  have HB := HB_
  clear HB_
  clear HB0
  go_wp2_with fail
  refine (toIntS_full _ c0 l0 _ (Kd.C_below HR0.out HB.out) HL0.out).mono ?_
  rintro e w3_ ⟨g6_, c7_, rfl, hf, hb⟩
  have HB0 : Aside0 (w.heap.size ≤ w2_.heap.size) := ⟨HB.out.size⟩
  have HZ3 : Aside0 (w2_.heap.size ≤ w3_.heap.size) := ⟨hb.size⟩
  have F2__ := Aside0.mk (FullG.below F2_.out hb)
  clear F2_
  have F2_ := F2__
  clear F2__
  have HB_ := Aside0.mk (below_step HB.out hb)
  clear HB hb
  have HB := HB_
  clear HB_
  have F5_ := Aside0.mk (show FullG w3_ w.heap.size (Btw w2_.heap.size w3_.heap.size) _ _ _ from r_btw hf (by have := HB0.out; exact this))
  clear hf HB0
  go_wp2_with fail
  refine (impl_MarksText.calls k2 (some ⟨g6_, 0, none⟩) c7_ l0 r1 r2 _ (FullG.reads F5_.out).2 (FullG.reads F5_.out).1 HI.out (HT.out.below HB.out)).mono ?_
  rintro e w4_ ⟨rfl, hb⟩
  have HB0 : Aside0 (w.heap.size ≤ w3_.heap.size) := ⟨HB.out.size⟩
  have HZ4 : Aside0 (w3_.heap.size ≤ w4_.heap.size) := ⟨hb.size⟩
  have F2__ := Aside0.mk (FullG.below F2_.out hb)
  clear F2_
  have F2_ := F2__
  clear F2__
  have F5__ := Aside0.mk (FullG.below F5_.out hb)
  clear F5_
  have F5_ := F5__
  clear F5__
  have HB_ := Aside0.mk (below_step HB.out hb)
  clear HB hb
  have HB := HB_
  clear HB_
  clear HB0
  go_wp2_with fail
  refine (toIntS_full _ c0 l0 _ (Kd.C_below HR0.out HB.out) HL0.out).mono ?_
  rintro e w5_ ⟨g10_, c11_, rfl, hf, hb⟩
  have HB0 : Aside0 (w.heap.size ≤ w4_.heap.size) := ⟨HB.out.size⟩
  have HZ5 : Aside0 (w4_.heap.size ≤ w5_.heap.size) := ⟨hb.size⟩
  have F2__ := Aside0.mk (FullG.below F2_.out hb)
  clear F2_
  have F2_ := F2__
  clear F2__
  have F5__ := Aside0.mk (FullG.below F5_.out hb)
  clear F5_
  have F5_ := F5__
  clear F5__
  have HB_ := Aside0.mk (below_step HB.out hb)
  clear HB hb
  have HB := HB_
  clear HB_
  have F9_ := Aside0.mk (show FullG w5_ w.heap.size (Btw w4_.heap.size w5_.heap.size) _ _ _ from r_btw hf (by have := HB0.out; exact this))
  clear hf HB0
  go_wp2_with fail
  refine (intactIntS_full _ _ _ _ _ _ _ _ _ _ F5_.out F9_.out HL0.out).mono ?_
  rintro e w6_ ⟨rfl, hd⟩
  have hb := hd.below
  clear hd
  have HZ6 : Aside0 (w5_.heap.size ≤ w6_.heap.size) := ⟨hb.size⟩
  have F2__ := Aside0.mk (FullG.below F2_.out hb)
  clear F2_
  have F2_ := F2__
  clear F2__
  have F5__ := Aside0.mk (FullG.below F5_.out hb)
  clear F5_
  have F5_ := F5__
  clear F5__
  have F9__ := Aside0.mk (FullG.below F9_.out hb)
  clear F9_
  have F9_ := F9__
  clear F9__
  have HB_ := Aside0.mk (below_step HB.out hb)
  clear HB hb
  have HB := HB_
  clear HB_
  go_wp2_with fail
  refine (toIntS_bare _ c0 l0 _ (Kd.C_below HR0.out HB.out) HL0.out).mono ?_
  rintro e w7_ ⟨A16_, c15_, rfl, hf, hb⟩
  have HB0 : Aside0 (w.heap.size ≤ w6_.heap.size) := ⟨HB.out.size⟩
  have HZ7 : Aside0 (w6_.heap.size ≤ w7_.heap.size) := ⟨hb.size⟩
  have F2__ := Aside0.mk (FullG.below F2_.out hb)
  clear F2_
  have F2_ := F2__
  clear F2__
  have F5__ := Aside0.mk (FullG.below F5_.out hb)
  clear F5_
  have F5_ := F5__
  clear F5__
  have F9__ := Aside0.mk (FullG.below F9_.out hb)
  clear F9_
  have F9_ := F9__
  clear F9__
  have HB_ := Aside0.mk (below_step HB.out hb)
  clear HB hb
  have HB := HB_
  clear HB_
  have F13_ := Aside0.mk (r_btw (b0 := w.heap.size) hf (by have := HB0.out; exact this))
  clear hf HB0
  go_wp2_with fail
  refine (impl_MarksText.calls k2 A16_ c15_ l0 r1 r2 _ (Kd.R_reads' F13_.out).2.2 (Kd.R_reads' F13_.out).2.1 HI.out (HT.out.below HB.out)).mono ?_
  rintro e w8_ ⟨rfl, hb⟩
  have HB0 : Aside0 (w.heap.size ≤ w7_.heap.size) := ⟨HB.out.size⟩
  have HZ8 : Aside0 (w7_.heap.size ≤ w8_.heap.size) := ⟨hb.size⟩
  have F2__ := Aside0.mk (FullG.below F2_.out hb)
  clear F2_
  have F2_ := F2__
  clear F2__
  have F5__ := Aside0.mk (FullG.below F5_.out hb)
  clear F5_
  have F5_ := F5__
  clear F5__
  have F9__ := Aside0.mk (FullG.below F9_.out hb)
  clear F9_
  have F9_ := F9__
  clear F9__
  have F13__ := Aside0.mk (Kd.R_below F13_.out hb)
  clear F13_
  have F13_ := F13__
  clear F13__
  have HB_ := Aside0.mk (below_step HB.out hb)
  clear HB hb
  have HB := HB_
  clear HB_
  clear HB0
  go_wp2
  go_ret
  exact ⟨rfl, HB.out⟩
set_option maxHeartbeats 4000000 in
set_option maxRecDepth 100000 in
theorem laws_FnExactMarksText.walk (P : laws_FnExactMarksText.Pure) (a0 : Option Addr) (len0 cap0 : Nat) (z0 : List Int) (w : World) (w0 : (a0 = none ∧ len0 = 0 ∧ cap0 = 0 ∧ z0 = []) ∨ ∃ x, a0 = some x ∧ len0 ≤ cap0 ∧ cap0 ≤ maxLen ∧ z0.length = cap0 ∧ (∀ i, i < z0.length → w.cell? (x.add i) = some (.int .i64 (z0.getD i 0))) ∧ ∀ n ∈ z0, (Lit.int .i64 n).wf = true) (y0 : len0 * 8 ≤ 140737488351232) (ht : Tabs w) :
    Calls Tryd.prog 4 #[.slice a0 len0 cap0] w fun e w' => e = .returned (.bool true) ∧ Below w.heap.size w w' := by
  obtain ⟨l0, rfl, hr0, hm0, hw0, hc0⟩ := ReadsInt.ofRowC w0
  by_cases hl : l0.length ≤ 1000000
  · obtain ⟨k1, k2, r1, r2, hs, hi⟩ := P l0 hw0 hl
    exact laws_FnExactMarksText.alike k1 k2 _ _ l0 r1 r2 w (Kd.C_of_reads (d := (0 : Int)) (h1 := fun _ => rfl) hr0) hc0 hl hs hi ht
  · clear hr0 hc0
    go_enter Tryd.func4, Tryd.ntmps4
    go_wp2
    go_ret
    exact ⟨rfl, Below.refl _ _⟩


end Go.Proofs.YtaniojfokildiaaDoor.PrintA
