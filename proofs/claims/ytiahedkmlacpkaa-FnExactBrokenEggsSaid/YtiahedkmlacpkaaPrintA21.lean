-- written by this session's own driver (wip/gen.py) with the kit's print and contracts of our own
import Derived.Test.YtiahedkmlacpkaaPrintA0
import Derived.Test.YtiahedkmlacpkaaPrintA3
import Derived.Test.YtiahedkmlacpkaaPrintA15
import Derived.Test.YtiahedkmlacpkaaPrintA18
import Derived.Test.YtiahedkmlacpkaaPrintA19
import Derived.Test.YtiahedkmlacpkaaPrintA20
namespace Go.Proofs.Ytiahedkmlacpkaa.PrintA
open Go.RowKit Go.Proofs.YtiahedkmlacpkaaW.PrintWords Go.Proofs.YtiahedkmlacpkaaW.PrintLast Go.Proofs.YtiahedkmlacpkaaW.PrintMore
attribute [local go_sem] max2_int min2_int max_two min_two max_three min_three max_four min_four   -- for this text's walks alone
set_option linter.unusedVariables false
set_option linter.unusedSimpArgs false

/-! ### impl_PlayDrops: function 16, a contract of our own -/
def impl_PlayDrops.f (a0 : Int) (a1 : Int) (a2 : Int) : Option ((List S56) × Bool) := (impl_isPlay.f a0 a1 a2).bind fun t => if t = true then some (playF bestF a2 a1.toNat a0.toNat a1 0 [], true) else some ([], false)
set_option maxHeartbeats 4000000 in
set_option maxRecDepth 100000 in
theorem impl_PlayDrops.calls (a0 : Int) (a1 : Int) (a2 : Int) (r1 : List S56) (r2 : Bool) (w : World) (h : impl_PlayDrops.f a0 a1 a2 = some (r1, r2)) :
    Calls Try.prog 16 #[.int .i64 a0, .int .i64 a1, .int .i64 a2] w fun e w' => ∃ v0_ : Value, e = .returned (.tuple #[v0_, .bool r2]) ∧ Kd.R k56 56 w' w.heap.size (fun _ => True) v0_ r1 ∧ Below w.heap.size w w' := by
  have hu56 := Try.underlying56
  unfold impl_PlayDrops.f at h
  rw [impl_isPlay_is, Option.bind_some] at h
  have HW := fun b (hb : impl_isPlay.f a0 a1 a2 = some b) => impl_isPlay.calls0 a0 a1 a2 b w hb
  rw [impl_isPlay_is] at HW
  have HB := Aside0.mk (Below.refl w.heap.size w)
  by_cases hp : (1 ≤ a0 ∧ a0 ≤ 10) ∧ (0 ≤ a1 ∧ a1 ≤ 1000) ∧ (0 ≤ a2 ∧ a2 ≤ a1)
  · have hpd : (((decide (1 ≤ a0) && decide (a0 ≤ 10)) && (decide (0 ≤ a1) && decide (a1 ≤ 1000))) && (decide (0 ≤ a2) && decide (a2 ≤ a1))) = true := by simp [hp]
    rw [hpd] at h HW
    rw [if_pos rfl] at h
    have HW := Aside0.mk (HW true rfl)
    have hq := Prod.mk.inj (Option.some.inj h)
    obtain ⟨hq1, rfl⟩ := hq
    have HQ := Aside0.mk hq1
    obtain ⟨⟨ha, hb⟩, ⟨hc, hd⟩, he, hf⟩ := hp
    obtain ⟨n0, rfl⟩ : ∃ m : Nat, a0 = m := ⟨a0.toNat, by omega⟩
    have HP : Aside0 (∀ (g : Nat) (W : World), IsReaches W g → Calls Try.prog 41 #[.int .i64 n0, .int .i64 a1, .int .i64 a2, .func (.func 43) #[.pointer (some ⟨g, 0, none⟩)] #[]] W fun e' w' => ∃ v, e' = .returned v ∧ Kd.R k56 56 w' W.heap.size (fun _ => True) v r1 ∧ Below W.heap.size W w') :=
      ⟨fun g W hR => by
        have := play_calls 43 #[.pointer (some ⟨g, 0, none⟩)] #[] bestF n0 a1 a2 W (by omega) (by omega) (by omega) (by omega) (by omega) (by omega) (enters_ Try.func43 (by kernel_rfl) rfl) bestF_range bestF_one
          (fun W2 e n hW h1 h2 h3 h4 => (best_calls g e n W2 h1 h2 h3 h4 (IsReaches.below hR hW)).mono fun e' w' hh => ⟨hh.1, by obtain ⟨m, hm⟩ := hh.2; rw [hm]; exact pw_below_drewN (Below.refl _ _) _⟩)
        rw [← HQ.out]; simpa using this⟩
    clear hpd h hq1 ha hb hc hd he hf
    go_enter Try.func16, Try.ntmps16
    go_wp2_with (first
      | (go_at_call 40; refine (HW.out).mono ?_; rintro e w' ⟨rfl, rfl⟩)
      | (go_at_call 42; refine (newReaches_calls _).mono ?_; rintro e w' ⟨g, rfl, hR, hg, hb⟩; have HR := Aside0.mk hR; have HB := Aside0.mk hb; clear hR hb hg)
      | (go_at_call 41; refine (HP.out _ _ HR.out).mono ?_; rintro e w' ⟨v, rfl, hr, hb⟩; have HO := Aside0.mk (Kd.R_lower hr (below_size HB.out)); have HB := Aside0.mk (below_step HB.out hb); clear hr hb))
    go_ret2
    exact ⟨_, rfl, HO.out, HB.out⟩
  · have hpd : (((decide (1 ≤ a0) && decide (a0 ≤ 10)) && (decide (0 ≤ a1) && decide (a1 ≤ 1000))) && (decide (0 ≤ a2) && decide (a2 ≤ a1))) = false := by
      simp only [Bool.and_eq_false_iff, decide_eq_false_iff_not]; omega
    rw [hpd] at h HW
    rw [if_neg (by decide)] at h
    have HW := Aside0.mk (HW false rfl)
    have hq := Prod.mk.inj (Option.some.inj h)
    obtain ⟨rfl, rfl⟩ := hq
    clear hpd h hp
    go_enter Try.func16, Try.ntmps16
    go_wp2_with (go_at_call 40; refine (HW.out).mono ?_; rintro e w' ⟨rfl, rfl⟩)
    go_ret2
    exact ⟨_, rfl, Kd.R_nil _ _ _ _ _, HB.out⟩

/-! ### impl_CountDrops: function 12 -/
def impl_CountDrops.f (a0 : Int) (a1 : Int) (a2 : Int) : Option (Int × Bool) := (impl_PlayDrops.f a0 a1 a2).bind fun bt147 => (some ((bt147.1.length : Int), bt147.2))
set_option maxHeartbeats 8000000 in
set_option maxRecDepth 100000 in
theorem impl_CountDrops.calls (a0 : Int) (a1 : Int) (a2 : Int) (r1 : Int) (r2 : Bool) (w : World) (h : impl_CountDrops.f a0 a1 a2 = some (r1, r2)) :
    Calls Try.prog 12 #[.int .i64 a0, .int .i64 a1, .int .i64 a2] w fun e w' => e = .returned (.tuple #[.int .i64 r1, .bool r2]) ∧ Below w.heap.size w w' := by
  have HB := Aside0.mk (Below.refl w.heap.size w)
  have H : ((impl_PlayDrops.f a0 a1 a2).bind fun bt147 => (some ((bt147.1.length : Int), bt147.2))) = some (r1, r2) := h
  clear h
  replace H := Option.bind_eq_some_iff.mp H
  obtain ⟨⟨t147, t148⟩, A40, H⟩ := H
  replace H : (some ((t147.length : Int), t148)) = some (r1, r2) := H
  have A4 := Aside0.mk A40
  clear A40
  simp only [Option.some.injEq, Prod.mk.injEq] at H
  obtain ⟨rfl, rfl⟩ := H
  go_enter Try.func12, Try.ntmps12
  go_wp2_with (first | ((with_reducible refine gate_callee (f := 16) rfl ?_); refine goesL_ (some 14) rfl rfl Try.func16 (by kernel_rfl) rfl #[.int .i64 a0, .int .i64 a1, .int .i64 a2] rfl (by (try simp only [List.map_toArray, List.map_cons, List.map_nil]); first | done | rfl | (simp only [List.length_drop, List.length_take]; rfl)) ?_; (with_reducible refine (impl_PlayDrops.calls a0 a1 a2 t147 t148 _ A4.out).mono ?_); rintro e w5 ⟨v149, rfl, ho0, hb⟩; refine ⟨_, rfl, ?_⟩; have n0_ := Aside0.mk (Kd.R_lower ho0 (below_size (by repeat (first | (with_reducible first | exact HB.out | apply below_alloc | apply pw_below_drewN | apply below_drew1) | exact HB.out)))); have n1_ := Aside0.mk (below_step (by repeat (first | (with_reducible first | exact HB.out | apply below_alloc | apply pw_below_drewN | apply below_drew1) | exact HB.out)) hb); clear HB; have HO150 := n0_; have HB := n1_; clear n0_ n1_; (try clear hb); (try clear hb2); (try clear hk); (try clear hi); (try clear ho0); obtain ⟨Ao6, co6, eo6⟩ := Kd.R_slice HO150.out; subst eo6))
  go_ret2
  exact ⟨by first | rfl | (simp [errW_none, errW_some] <;> rfl) | (simp [*, errW_none, errW_some] <;> rfl), by repeat (first | (with_reducible first | exact HB.out | apply below_alloc | apply pw_below_drewN | apply below_drew1) | exact HB.out)⟩

/-! ### laws_FnExactCountDrops: function 3, a law -/
/-- THE ONE PURE STATEMENT of laws_FnExactCountDrops. -/
def laws_FnExactCountDrops.Pure : Prop := ∀ (a0 : Int) (a1 : Int) (a2 : Int), (Lit.int .i64 a0).wf = true → (Lit.int .i64 a1).wf = true → (Lit.int .i64 a2).wf = true → ∃ (k1 : Nat) (r1 : Int) (r2 : Bool), spec_CountDrops.f k1 a0 a1 a2 = some (r1, r2) ∧ impl_CountDrops.f a0 a1 a2 = some (r1, r2)
set_option maxHeartbeats 8000000 in
set_option maxRecDepth 100000 in
theorem laws_FnExactCountDrops.alike (k1 : Nat) (a0 : Int) (a1 : Int) (a2 : Int) (r1 : Int) (r2 : Bool) (w : World)  (hs : spec_CountDrops.f k1 a0 a1 a2 = some (r1, r2)) (hi : impl_CountDrops.f a0 a1 a2 = some (r1, r2)) :
    Calls Try.prog 3 #[.int .i64 a0, .int .i64 a1, .int .i64 a2] w fun e w' => e = .returned (.bool true) ∧ Below w.heap.size w w' := by
  have HS := Aside0.mk hs
  have HI := Aside0.mk hi
  clear hs hi
  have HB := Aside0.mk (Below.refl w.heap.size w)
  go_enter Try.func3, Try.ntmps3
  go_wp2_with fail
  refine (spec_CountDrops.calls k1 a0 a1 a2 r1 r2 _  HS.out).mono ?_
  rintro e w1_ ⟨rfl, hb⟩
  have HB0 : Aside0 (w.heap.size ≤ w.heap.size) := ⟨HB.out.size⟩
  have HZ1 : Aside0 (w.heap.size ≤ w1_.heap.size) := ⟨hb.size⟩
  have HB_ := Aside0.mk (below_step HB.out hb)
  clear HB hb
  have HB := HB_
  clear HB_
  clear HB0
  go_wp2_with fail
  refine (impl_CountDrops.calls a0 a1 a2 r1 r2 _  HI.out).mono ?_
  rintro e w2_ ⟨rfl, hb⟩
  have HB0 : Aside0 (w.heap.size ≤ w1_.heap.size) := ⟨HB.out.size⟩
  have HZ2 : Aside0 (w1_.heap.size ≤ w2_.heap.size) := ⟨hb.size⟩
  have HB_ := Aside0.mk (below_step HB.out hb)
  clear HB hb
  have HB := HB_
  clear HB_
  clear HB0
  go_wp2
  go_ret
  exact ⟨rfl, HB.out⟩
set_option maxHeartbeats 4000000 in
set_option maxRecDepth 100000 in
theorem laws_FnExactCountDrops.walk (P : laws_FnExactCountDrops.Pure) (a0 : Int) (a1 : Int) (a2 : Int) (w : World) (w0 : (Lit.int .i64 a0).wf = true) (w1 : (Lit.int .i64 a1).wf = true) (w2 : (Lit.int .i64 a2).wf = true) :
    Calls Try.prog 3 #[.int .i64 a0, .int .i64 a1, .int .i64 a2] w fun e w' => e = .returned (.bool true) ∧ Below w.heap.size w w' := by
  obtain ⟨k1, r1, r2, hs, hi⟩ := P a0 a1 a2 w0 w1 w2
  exact laws_FnExactCountDrops.alike k1  a0 a1 a2 r1 r2 w  hs hi


end Go.Proofs.Ytiahedkmlacpkaa.PrintA
