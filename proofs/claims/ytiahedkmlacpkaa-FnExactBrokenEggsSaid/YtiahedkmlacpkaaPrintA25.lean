-- written by this session's own driver (wip/gen.py) with the kit's print and contracts of our own
import Derived.Test.YtiahedkmlacpkaaPrintA0
import Derived.Test.YtiahedkmlacpkaaPrintA21
import Derived.Test.YtiahedkmlacpkaaPrintA23
import Derived.Test.YtiahedkmlacpkaaPrintA24
namespace Go.Proofs.Ytiahedkmlacpkaa.PrintA
open Go.RowKit Go.Proofs.YtiahedkmlacpkaaW.PrintWords Go.Proofs.YtiahedkmlacpkaaW.PrintLast Go.Proofs.YtiahedkmlacpkaaW.PrintMore
attribute [local go_sem] max2_int min2_int max_two min_two max_three min_three max_four min_four   -- for this text's walks alone
set_option linter.unusedVariables false
set_option linter.unusedSimpArgs false

/-! ### impl_BrokenEggs: function 14 -/
def impl_BrokenEggs.f (k : Nat) (a0 : Int) (a1 : Int) (a2 : Int) : Option (Int × Bool) := (impl_PlayDrops.f a0 a1 a2).bind fun bt160 => ((impl_countBroken.f k bt160.1).bind fun t164 => (some (t164, bt160.2)))
theorem impl_BrokenEggs.mono : ∀ a0 a1 a2 k, LeO (impl_BrokenEggs.f k a0 a1 a2) (impl_BrokenEggs.f (k + 1) a0 a1 a2) := by
  intro a0 a1 a2 k
  unfold impl_BrokenEggs.f
  repeat' first
      | (with_reducible exact impl_countBroken.mono _ _)
      | (with_reducible exact LeO.refl _)
      | (with_reducible exact LeO.none _)
      | (with_reducible refine LeO.ite ?_ ?_)
      | (with_reducible refine LeO.bind ?_ (fun _ => ?_))
      | exact impl_countBroken.mono _ _
      | exact LeO.none _
      | refine LeO.ite ?_ ?_
      | refine LeO.bind ?_ (fun _ => ?_)
set_option maxHeartbeats 8000000 in
set_option maxRecDepth 100000 in
theorem impl_BrokenEggs.calls (k : Nat) (a0 : Int) (a1 : Int) (a2 : Int) (r1 : Int) (r2 : Bool) (w : World) (h : impl_BrokenEggs.f k a0 a1 a2 = some (r1, r2)) :
    Calls Try.prog 14 #[.int .i64 a0, .int .i64 a1, .int .i64 a2] w fun e w' => e = .returned (.tuple #[.int .i64 r1, .bool r2]) ∧ Below w.heap.size w w' := by
  have HB := Aside0.mk (Below.refl w.heap.size w)
  have H : ((impl_PlayDrops.f a0 a1 a2).bind fun bt160 => ((impl_countBroken.f k bt160.1).bind fun t164 => (some (t164, bt160.2)))) = some (r1, r2) := h
  clear h
  replace H := Option.bind_eq_some_iff.mp H
  obtain ⟨⟨t160, t161⟩, A40, H⟩ := H
  replace H : ((impl_countBroken.f k t160).bind fun t164 => (some (t164, t161))) = some (r1, r2) := H
  have A4 := Aside0.mk A40
  clear A40
  replace H := Option.bind_eq_some_iff.mp H
  obtain ⟨t164, A50, H⟩ := H
  replace H : (some (t164, t161)) = some (r1, r2) := H
  have A5 := Aside0.mk A50
  clear A50
  simp only [Option.some.injEq, Prod.mk.injEq] at H
  obtain ⟨rfl, rfl⟩ := H
  go_enter Try.func14, Try.ntmps14
  go_wp2_with (first | ((with_reducible refine gate_callee (f := 16) rfl ?_); refine goesL_ (some 14) rfl rfl Try.func16 (by kernel_rfl) rfl #[.int .i64 a0, .int .i64 a1, .int .i64 a2] rfl (by (try simp only [List.map_toArray, List.map_cons, List.map_nil]); first | done | rfl | (simp only [List.length_drop, List.length_take]; rfl)) ?_; (with_reducible refine (impl_PlayDrops.calls a0 a1 a2 t160 t161 _ A4.out).mono ?_); rintro e w6 ⟨v162, rfl, ho0, hb⟩; refine ⟨_, rfl, ?_⟩; have n0_ := Aside0.mk (Kd.R_lower ho0 (below_size (by repeat (first | (with_reducible first | exact HB.out | apply below_alloc | apply pw_below_drewN | apply below_drew1) | exact HB.out)))); have n1_ := Aside0.mk (below_step (by repeat (first | (with_reducible first | exact HB.out | apply below_alloc | apply pw_below_drewN | apply below_drew1) | exact HB.out)) hb); clear HB; have HO163 := n0_; have HB := n1_; clear n0_ n1_; (try clear hb); (try clear hb2); (try clear hk); (try clear hi); (try clear ho0); obtain ⟨Ao7, co7, eo7⟩ := Kd.R_slice HO163.out; subst eo7) | ((with_reducible refine gate_callee (f := 39) rfl ?_); refine goesL_ (some 18) rfl rfl Try.func39 (by kernel_rfl) rfl #[.slice Ao7 t160.length co7] rfl (by (try simp only [List.map_toArray, List.map_cons, List.map_nil]); first | done | rfl | (simp only [List.length_drop, List.length_take]; rfl)) ?_; (with_reducible refine (impl_countBroken.calls k _ _ t160 t164 _ ?side1 ?side2 A5.out).mono ?_); (case side1 => repeat (first | exact (Kd.R_reads' HO163.out).2.2 | (with_reducible refine Kd.C_alloc ?_ _) | (with_reducible refine Kd.C_drewN ?_ _) | (with_reducible refine Kd.C_drew ?_))); (case side2 => exact (Kd.R_reads' HO163.out).2.1); rintro e w8 ⟨rfl, hb⟩; refine ⟨_, rfl, ?_⟩; have n0_ := Aside0.mk (Kd.R_below (by (with_reducible repeat (first | apply Kd.R_alloc | apply Kd.R_drewN | apply Kd.R_drew)); exact HO163.out) hb); have n1_ := Aside0.mk (below_step (by repeat (first | (with_reducible first | exact HB.out | apply below_alloc | apply pw_below_drewN | apply below_drew1) | exact HB.out)) hb); clear HO163; clear HB; have HO163 := n0_; have HB := n1_; clear n0_ n1_; (try clear hb); (try clear hb2); (try clear hk); (try clear hi)))
  go_ret2
  exact ⟨by first | rfl | (simp [errW_none, errW_some] <;> rfl) | (simp [*, errW_none, errW_some] <;> rfl), by repeat (first | (with_reducible first | exact HB.out | apply below_alloc | apply pw_below_drewN | apply below_drew1) | exact HB.out)⟩

/-! ### laws_FnExactBrokenEggs: function 4, a law -/
/-- THE ONE PURE STATEMENT of laws_FnExactBrokenEggs. -/
def laws_FnExactBrokenEggs.Pure : Prop := ∀ (a0 : Int) (a1 : Int) (a2 : Int), (Lit.int .i64 a0).wf = true → (Lit.int .i64 a1).wf = true → (Lit.int .i64 a2).wf = true → ∃ (k1 : Nat) (k2 : Nat) (r1 : Int) (r2 : Bool), spec_BrokenEggs.f k1 a0 a1 a2 = some (r1, r2) ∧ impl_BrokenEggs.f k2 a0 a1 a2 = some (r1, r2)
set_option maxHeartbeats 8000000 in
set_option maxRecDepth 100000 in
theorem laws_FnExactBrokenEggs.alike (k1 : Nat) (k2 : Nat) (a0 : Int) (a1 : Int) (a2 : Int) (r1 : Int) (r2 : Bool) (w : World)  (hs : spec_BrokenEggs.f k1 a0 a1 a2 = some (r1, r2)) (hi : impl_BrokenEggs.f k2 a0 a1 a2 = some (r1, r2)) :
    Calls Try.prog 4 #[.int .i64 a0, .int .i64 a1, .int .i64 a2] w fun e w' => e = .returned (.bool true) ∧ Below w.heap.size w w' := by
  have HS := Aside0.mk hs
  have HI := Aside0.mk hi
  clear hs hi
  have HB := Aside0.mk (Below.refl w.heap.size w)
  go_enter Try.func4, Try.ntmps4
  go_wp2_with fail
  refine (spec_BrokenEggs.calls k1 a0 a1 a2 r1 r2 _  HS.out).mono ?_
  rintro e w1_ ⟨rfl, hb⟩
  have HB0 : Aside0 (w.heap.size ≤ w.heap.size) := ⟨HB.out.size⟩
  have HZ1 : Aside0 (w.heap.size ≤ w1_.heap.size) := ⟨hb.size⟩
  have HB_ := Aside0.mk (below_step HB.out hb)
  clear HB hb
  have HB := HB_
  clear HB_
  clear HB0
  go_wp2_with fail
  refine (impl_BrokenEggs.calls k2 a0 a1 a2 r1 r2 _  HI.out).mono ?_
  rintro e w2_ ⟨rfl, hb⟩
  have HB0 : Aside0 (w.heap.size ≤ w1_.heap.size) := ⟨HB.out.size⟩
  have HZ2 : Aside0 (w1_.heap.size ≤ w2_.heap.size) := ⟨hb.size⟩
  have HB_ := Aside0.mk (below_step HB.out hb)
  clear HB hb
  have HB := HB_
  clear HB_
  clear HB0
  go_wp2
  go_ret
  exact ⟨rfl, HB.out⟩
set_option maxHeartbeats 4000000 in
set_option maxRecDepth 100000 in
theorem laws_FnExactBrokenEggs.walk (P : laws_FnExactBrokenEggs.Pure) (a0 : Int) (a1 : Int) (a2 : Int) (w : World) (w0 : (Lit.int .i64 a0).wf = true) (w1 : (Lit.int .i64 a1).wf = true) (w2 : (Lit.int .i64 a2).wf = true) :
    Calls Try.prog 4 #[.int .i64 a0, .int .i64 a1, .int .i64 a2] w fun e w' => e = .returned (.bool true) ∧ Below w.heap.size w w' := by
  obtain ⟨k1, k2, r1, r2, hs, hi⟩ := P a0 a1 a2 w0 w1 w2
  exact laws_FnExactBrokenEggs.alike k1 k2 a0 a1 a2 r1 r2 w  hs hi


end Go.Proofs.Ytiahedkmlacpkaa.PrintA
