-- written by this session's own driver (wip/gen.py) with the kit's print and contracts of our own
import Derived.Test.YtmclbiollhdbjaaPrintA0
import Derived.Test.YtmclbiollhdbjaaPrintA2
import Derived.Test.YtmclbiollhdbjaaPrintA4
import Derived.Test.YtmclbiollhdbjaaPrintA5
import Derived.Test.YtmclbiollhdbjaaPrintA6
namespace Go.Proofs.Ytmclbiollhdbjaa.PrintA
open Go.RowKit Go.Proofs.YtmclbiollhdbjaaLib Go.Proofs.YtmclbiollhdbjaaW.PrintWords Go.Proofs.YtmclbiollhdbjaaW.PrintLast Go.Proofs.YtmclbiollhdbjaaW.PrintMore
attribute [local go_sem] max2_int min2_int max_two min_two max_three min_three max_four min_four   -- for this text's walks alone
set_option linter.unusedVariables false
set_option linter.unusedSimpArgs false

/-! behind spec_trTests -/
theorem toL_split (b a : Tr) (fr : Int) (h0 : 0 ≤ fr) (h1 : fr ≤ 1000000) (hs : b.size ≤ 1000000) : spec_trSplit.f ((Tr.node b a).toL fr) fr = some (b.size : Int) := by
  unfold spec_trSplit.f
  have e : wrap64 (fr + (b.size : Int) - fr) = b.size := by unfold wrap64; omega
  have h : 0 < (((Tr.node b a).toL fr).length : Int) := by rw [Tr.toL_length]; simp only [Tr.size]; omega
  rw [if_pos h]
  simp only [Tr.toL, rd_cons0]
  rw [e]
theorem spec_trTests_is : ∀ (t : Tr) (fr : Int) (k : Nat), t.size < k → t.size ≤ 1000 → 0 ≤ fr → fr ≤ 100000 - t.size → spec_trTests.f k (t.toL fr) fr = some (t.tests, t.eggs, t.sum) := by
  intro t
  induction t with
  | nil =>
    intro fr k hk _ _ _
    obtain ⟨k, rfl⟩ : ∃ m, k = m + 1 := ⟨k - 1, by omega⟩
    simp only [spec_trTests.f]
    rw [if_pos (show ((Tr.nil.toL _).length : Int) = 0 from rfl)]
    rfl
  | node b a ihb iha =>
    intro fr k hk hs h0 h1
    obtain ⟨k, rfl⟩ : ∃ m, k = m + 1 := ⟨k - 1, by omega⟩
    have hsz : (Tr.node b a).size = b.size + a.size + 1 := rfl
    have hln := Tr.toL_length (Tr.node b a) fr
    rw [hsz] at hln hk hs h1
    have hsp := toL_split b a fr h0 (by omega) (by omega)
    have htk := toL_take b a fr
    have hdr := toL_drop b a fr
    have hrd : rd ((Tr.node b a).toL fr) 0 = fr + b.size := rfl
    generalize (Tr.node b a).toL fr = l at hln hsp htk hdr hrd ⊢
    have e3 : wrap64 (1 + (b.size : Int)) = ((b.size + 1 : Nat) : Int) := by unfold wrap64; omega
    have e5 : wrap64 (fr + b.size + 1) = fr + b.size + 1 := by unfold wrap64; omega
    have j1 := ihb fr k (by omega) (by omega) h0 (by omega)
    have j2 := iha (fr + b.size + 1) k (by omega) (by omega) (by omega) (by omega)
    simp only [spec_trTests.f]
    rw [if_neg (by omega : ¬ (l.length : Int) = 0), hsp, Option.bind_some, e3, if_pos (by omega : (1 : Int) ≤ ((b.size + 1 : Nat) : Int)), if_pos (by omega : ((b.size + 1 : Nat) : Int) ≤ (l.length : Int)), Int.toNat_natCast, htk, j1, Option.bind_some,
      if_pos (by omega : (0 : Int) ≤ ((b.size + 1 : Nat) : Int)), if_pos (by omega : (0 : Int) < (l.length : Int)), hdr, hrd, e5, j2, Option.bind_some]
    rw [spec_l1Most_is, Option.bind_some, spec_l1Most_is, Option.bind_some]
    have r1 := b.tests_range
    have r2 := a.tests_range
    have r3 := b.eggs_range
    have r4 := a.eggs_range
    have r5 := b.sum_range (by omega)
    have r6 := a.sum_range (by omega)
    clear ihb iha
    simp only [Tr.tests, Tr.eggs, Tr.sum]
    rw [hln]
    have w1 : wrap64 (b.eggs + 1) = b.eggs + 1 := by unfold wrap64; omega
    have w2 : wrap64 (1 + max b.tests a.tests) = 1 + max b.tests a.tests := by unfold wrap64; omega
    have w3 : wrap64 (b.sum + a.sum) = b.sum + a.sum := by unfold wrap64; omega
    have w4 : wrap64 (b.sum + a.sum + ((b.size + a.size + 1 : Nat) : Int)) = b.sum + a.sum + (b.size + a.size + 1) := by unfold wrap64; omega
    have w5 : wrap64 (b.sum + a.sum + (b.size + a.size + 1) + 1) = b.sum + a.sum + (b.size + a.size + 1) + 1 := by unfold wrap64; omega
    rw [w1, w2, w3, w4, w5]

/-! ### spec_EggsOfTree: function 11 -/
def spec_EggsOfTree.f (k : Nat) (l0 : List Int) : Option (Int × Bool) := (spec_trIs.f k l0).bind fun t123 => (if t123 = true then ((spec_trTests.f k l0 1).bind fun bt124 => (some (bt124.2.1, true))) else (some (0, false)))
theorem spec_EggsOfTree.mono : ∀ a0 k, LeO (spec_EggsOfTree.f k a0) (spec_EggsOfTree.f (k + 1) a0) := by
  intro a0 k
  unfold spec_EggsOfTree.f
  repeat' first
      | (with_reducible exact spec_trIs.mono _ _)
      | (with_reducible exact spec_trTests.mono _ _ _)
      | (with_reducible exact LeO.refl _)
      | (with_reducible exact LeO.none _)
      | (with_reducible refine LeO.ite ?_ ?_)
      | (with_reducible refine LeO.bind ?_ (fun _ => ?_))
      | exact spec_trIs.mono _ _
      | exact spec_trTests.mono _ _ _
      | exact LeO.none _
      | refine LeO.ite ?_ ?_
      | refine LeO.bind ?_ (fun _ => ?_)
set_option maxHeartbeats 8000000 in
set_option maxRecDepth 100000 in
theorem spec_EggsOfTree.calls (k : Nat) (A0 : Option Addr) (c0 : Nat) (l0 : List Int) (r1 : Int) (r2 : Bool) (w : World) (hr0 : Kd.C (Kd.int .i64) w A0 l0.length l0) (hc0 : l0.length ≤ c0) (h : spec_EggsOfTree.f k l0 = some (r1, r2)) :
    Calls Try.prog 11 #[.slice A0 l0.length c0] w fun e w' => e = .returned (.tuple #[.int .i64 r1, .bool r2]) ∧ Below w.heap.size w w' := by
  have HR0 := Aside0.mk hr0
  have HC0 := Aside0.mk hc0
  clear hr0 hc0
  have HB := Aside0.mk (Below.refl w.heap.size w)
  have H : ((spec_trIs.f k l0).bind fun t123 => (if t123 = true then ((spec_trTests.f k l0 1).bind fun bt124 => (some (bt124.2.1, true))) else (some (0, false)))) = some (r1, r2) := h
  clear h
  replace H := Option.bind_eq_some_iff.mp H
  obtain ⟨t123, A20, H⟩ := H
  replace H : (if t123 = true then ((spec_trTests.f k l0 1).bind fun bt124 => (some (bt124.2.1, true))) else (some (0, false))) = some (r1, r2) := H
  have A2 := Aside0.mk A20
  clear A20
  by_cases c3 : t123 = true
  · subst c3
    have H1 : ((spec_trTests.f k l0 1).bind fun bt124 => (some (bt124.2.1, true))) = some (r1, r2) := by rw [if_pos rfl] at H; exact H
    clear H
    have H := H1
    clear H1
    replace H := Option.bind_eq_some_iff.mp H
    obtain ⟨⟨t124, t125, t126⟩, A40, H⟩ := H
    replace H : (some (t125, true)) = some (r1, r2) := H
    have A4 := Aside0.mk A40
    clear A40
    simp only [Option.some.injEq, Prod.mk.injEq] at H
    obtain ⟨rfl, rfl⟩ := H
    go_enter Try.func11, Try.ntmps11
    go_wp2_with (first | ((with_reducible refine gate_callee (f := 35) rfl ?_); refine goesL_ (some 8) rfl rfl Try.func35 (by kernel_rfl) rfl #[.slice A0 l0.length c0] rfl (by (try simp only [List.map_toArray, List.map_cons, List.map_nil]); first | done | rfl | (simp only [List.length_drop, List.length_take]; rfl)) ?_; (with_reducible refine (spec_trIs.calls k _ _ l0 true _ ?side1 ?side2 A2.out).mono ?_); (case side1 => repeat (first | exact HR0.out | (with_reducible refine Kd.C_alloc ?_ _) | (with_reducible refine Kd.C_drewN ?_ _) | (with_reducible refine Kd.C_drew ?_))); (case side2 => exact HC0.out); rintro e w5 ⟨rfl, hb⟩; refine ⟨_, rfl, ?_⟩; have n0_ := Aside0.mk (below_step (by repeat (first | (with_reducible first | exact HB.out | apply below_alloc | apply pw_below_drewN | apply below_drew1) | exact HB.out)) hb); clear HB; have HB := n0_; clear n0_; (try clear hb); (try clear hb2); (try clear hk); (try clear hi)) | ((with_reducible refine gate_callee (f := 36) rfl ?_); refine goesL_ (some 12) rfl rfl Try.func36 (by kernel_rfl) rfl #[.slice A0 l0.length c0, .int .i64 1] rfl (by (try simp only [List.map_toArray, List.map_cons, List.map_nil]); first | done | rfl | (simp only [List.length_drop, List.length_take]; rfl)) ?_; (with_reducible refine (spec_trTests.calls k _ _ l0 1 t124 t125 t126 _ ?side1 ?side2 A4.out).mono ?_); (case side1 => repeat (first | exact HR0.out | exact (Kd.C_below HR0.out HB.out) | (with_reducible refine Kd.C_alloc ?_ _) | (with_reducible refine Kd.C_drewN ?_ _) | (with_reducible refine Kd.C_drew ?_))); (case side2 => exact HC0.out); rintro e w6 ⟨rfl, hb⟩; refine ⟨_, rfl, ?_⟩; have n0_ := Aside0.mk (below_step (by repeat (first | (with_reducible first | exact HB.out | apply below_alloc | apply pw_below_drewN | apply below_drew1) | exact HB.out)) hb); clear HB; have HB := n0_; clear n0_; (try clear hb); (try clear hb2); (try clear hk); (try clear hi)))
    go_ret2
    exact ⟨by first | rfl | (simp [errW_none, errW_some] <;> rfl) | (simp [*, errW_none, errW_some] <;> rfl), by repeat (first | (with_reducible first | exact HB.out | apply below_alloc | apply pw_below_drewN | apply below_drew1) | exact HB.out)⟩
  · replace c3 := Bool.eq_false_iff.mpr c3
    subst c3
    have H1 : (some (0, false)) = some (r1, r2) := by rw [if_neg (show ¬ (false = true) by decide)] at H; exact H
    clear H
    have H := H1
    clear H1
    simp only [Option.some.injEq, Prod.mk.injEq] at H
    obtain ⟨rfl, rfl⟩ := H
    go_enter Try.func11, Try.ntmps11
    go_wp2_with (first | ((with_reducible refine gate_callee (f := 35) rfl ?_); refine goesL_ (some 8) rfl rfl Try.func35 (by kernel_rfl) rfl #[.slice A0 l0.length c0] rfl (by (try simp only [List.map_toArray, List.map_cons, List.map_nil]); first | done | rfl | (simp only [List.length_drop, List.length_take]; rfl)) ?_; (with_reducible refine (spec_trIs.calls k _ _ l0 false _ ?side1 ?side2 A2.out).mono ?_); (case side1 => repeat (first | exact HR0.out | (with_reducible refine Kd.C_alloc ?_ _) | (with_reducible refine Kd.C_drewN ?_ _) | (with_reducible refine Kd.C_drew ?_))); (case side2 => exact HC0.out); rintro e w7 ⟨rfl, hb⟩; refine ⟨_, rfl, ?_⟩; have n0_ := Aside0.mk (below_step (by repeat (first | (with_reducible first | exact HB.out | apply below_alloc | apply pw_below_drewN | apply below_drew1) | exact HB.out)) hb); clear HB; have HB := n0_; clear n0_; (try clear hb); (try clear hb2); (try clear hk); (try clear hi)))
    go_ret2
    exact ⟨by first | rfl | (simp [errW_none, errW_some] <;> rfl) | (simp [*, errW_none, errW_some] <;> rfl), by repeat (first | (with_reducible first | exact HB.out | apply below_alloc | apply pw_below_drewN | apply below_drew1) | exact HB.out)⟩

end Go.Proofs.Ytmclbiollhdbjaa.PrintA
