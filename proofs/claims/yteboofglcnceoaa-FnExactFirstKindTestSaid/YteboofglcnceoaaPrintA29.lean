-- written by this session's own driver (wip/gen.py) with the kit's print and contracts of our own
import Derived.Test.YteboofglcnceoaaPrintA0
import Derived.Test.YteboofglcnceoaaPrintA15
import Derived.Test.YteboofglcnceoaaPrintA16
import Derived.Test.YteboofglcnceoaaPrintA21
import Derived.Test.YteboofglcnceoaaPrintA22
import Derived.Test.YteboofglcnceoaaPrintA26
import Derived.Test.YteboofglcnceoaaPrintA28
namespace Go.Proofs.Yteboofglcnceoaa.PrintA
open Go.RowKit Go.Proofs.YteboofglcnceoaaLib Go.Proofs.YteboofglcnceoaaW.PrintWords Go.Proofs.YteboofglcnceoaaW.PrintLast Go.Proofs.YteboofglcnceoaaW.PrintMore
attribute [local go_sem] max2_int min2_int max_two min_two max_three min_three max_four min_four   -- for this text's walks alone
set_option linter.unusedVariables false
set_option linter.unusedSimpArgs false

/-! ### impl_FirstKindTest: function 11, a contract of our own -/
def impl_FirstKindTest.f (a0 a1 a2 : Int) : Option (Bool × Int × Bool) := some (kFirst3 a0 a1 a2)
set_option maxHeartbeats 8000000 in
set_option maxRecDepth 100000 in
theorem impl_FirstKindTest.calls (a0 a1 a2 : Int) (r1 : Bool) (r2 : Int) (r3 : Bool) (w : World) (h : impl_FirstKindTest.f a0 a1 a2 = some (r1, r2, r3)) :
    Calls Try.prog 11 #[.int .i64 a0, .int .i64 a1, .int .i64 a2] w fun e w' => e = .returned (.tuple #[.bool r1, .int .i64 r2, .bool r3]) ∧ Below w.heap.size w w' := by
  have HB := Aside0.mk (Below.refl w.heap.size w)
  unfold impl_FirstKindTest.f kFirst3 at h
  have hq := Option.some.inj h
  have HG := Aside0.mk (fun (W : World) => impl_isKindHouse.calls0 a0 a1 a2 (kAsk a0 a1 a2) W (isKindHouse_is a0 a1 a2))
  clear h
  cases hgd : kAsk a0 a1 a2 with
  | true =>
    rw [hgd] at HG
    by_cases hz : a2 = 0
    · rw [if_neg (by intro hc; exact hc.2 hz)] at hq
      obtain ⟨rfl, hq2⟩ := Prod.mk.inj hq
      obtain ⟨rfl, rfl⟩ := Prod.mk.inj hq2
      have hqz : (a2 == 0) = true := by rw [beq_iff_eq]; exact hz
      clear hgd hq hq2 hz
      go_enter Try.func11, Try.ntmps11
      go_wp2_with (go_at_call 16; with_reducible refine (HG.out _).mono ?_; rintro e_ w_ ⟨rfl, rfl⟩)
      go_ret3
      exact ⟨rfl, HB.out⟩
    · rw [if_pos ⟨hgd, hz⟩] at hq
      obtain ⟨hr1, hq2⟩ := Prod.mk.inj hq
      obtain ⟨hr2, hr3⟩ := Prod.mk.inj hq2
      have hok := kStart_ok hgd
      have hlt := kIdx_lt hgd hz
      have HF : Aside0 (∀ (gs mb : Nat) (W : World), gs ≠ mb → W.heap[gs]? = some (.cells #[.bool false, .map (some mb)] 52 (0, 0)) → Memo false W mb 0 → Calls Try.prog 21 #[.pointer (some ⟨gs, 0, none⟩), .agg #[.int .i64 0, .int .i64 a2, .int .i64 0, .int .i64 a2, .int .i64 a0, .int .i64 a1]] W fun e' w' => e' = .returned (.agg #[.bool r1, .int .i64 r2, .bool false]) ∧ KeptM W w' mb) := ⟨fun gs mb W h1 h2 h3 => by
        have := first_calls false (kStart a0 a1 a2) hok gs mb W (kIdx (kStart a0 a1 a2)) hlt (kIdx_hit _ hlt) (fun i hi => kIdx_miss _ hlt i hi) h1 h2 h3
        rw [← hr1, ← hr2]
        exact this⟩
      have HST := Aside0.mk (fun (W : World) => impl_nothing.calls a0 a1 a2 _ _ _ _ _ _ W rfl)
      have hqz : (a2 == 0) = false := by rw [beq_eq_false_iff_ne]; exact hz
      clear hgd hq hq2 hz hok hlt hr1 hr2
      subst hr3
      go_enter Try.func11, Try.ntmps11
      go_wp2_with (first
        | (go_at_call 16; with_reducible refine (HG.out _).mono ?_; rintro e_ w_ ⟨rfl, rfl⟩)
        | (go_at_call 17; with_reducible refine (newSolver_calls false _).mono ?_; rintro e_ w2 ⟨gs, mb, rfl, hne, hS, hM, hb, hmb⟩; have NS := Aside0.mk hne; have KS := Aside0.mk hS; have HM := Aside0.mk hM; have HMB := Aside0.mk hmb; clear HB; have HB := Aside0.mk hb; clear hne hS hM hb hmb)
        | (go_at_call 19; with_reducible refine (HST.out _).mono ?_; rintro e_ w3 ⟨rfl, hb⟩; have n0_ := Aside0.mk (below_step HB.out hb); have n1_ := Aside0.mk (Memo.below HM.out hb); have n2_ := Aside0.mk (blk_below KS.out hb); clear HB HM KS hb; have HB := n0_; have HM := n1_; have KS := n2_; clear n0_ n1_ n2_)
        | (go_at_call 21; with_reducible refine (HF.out _ _ _ NS.out KS.out HM.out).mono ?_; rintro e_ w4 ⟨rfl, hk⟩; have n0_ := Aside0.mk ((KeptM.then_ ⟨Kept.of_below HB.out _, HB.out.mono (Nat.zero_le _)⟩ hk).new HMB.out); clear HB HM KS hk; have HB := n0_; clear n0_)
        | ((with_reducible refine gate_dst (N := 9) rfl ?_); refine box_event ?hg (N := 9) ?hd (cs := #[.bool false, .int .i64 0, .bool false]) (t := 42) ?hr ?_; (case hd => rfl); (case hg => rfl); (case hr => first | (go_simp; done) | (go_simp; rfl)); intro b4 hg w5 hbox hb; have GB4 := Aside0.mk (show w.heap.size ≤ b4 by rw [hg]; exact HB.out.size); have n0_ := Aside0.mk (below_step HB.out hb); clear HB; have HB := n0_; have B4 := Aside0.mk hbox; clear n0_ hg hbox hb; have hz0 : (w5).cell? ⟨b4, 0, none⟩ = some (.bool false) := (blk_cell B4.out 0).trans rfl; have hz1 : (w5).cell? ⟨b4, 1, none⟩ = some (.int .i64 0) := (blk_cell B4.out 1).trans rfl; have hz2 : (w5).cell? ⟨b4, 2, none⟩ = some (.bool false) := (blk_cell B4.out 2).trans rfl; skip)
        | ((with_reducible refine gate_store (t := 42) (p := 9) rfl ?_); have hfz0_ := blk_frozen B4.out 0; have hfz1_ := blk_frozen B4.out 1; have hfz2_ := blk_frozen B4.out 2; refine store_event (t := 42) (p := 9) (v := ?vo_) (w1 := (((w5.setCell ⟨b4, 0, none⟩ (.bool r1)).setCell ⟨b4, 1, none⟩ (.int .i64 r2)).setCell ⟨b4, 2, none⟩ (.bool false))) ?hg ?ho ?hn ?hr ?_; (case ho => rfl); (case hg => rfl); (case hn => rfl); (case hr => first | (go_simp; done) | (go_simp; rfl)); intro w6 hw; have n2_ : Aside0 (Below w.heap.size w w6) := ⟨by rw [hw]; exact ((HB.out.setCell GB4.out _).setCell GB4.out _).setCell GB4.out _⟩; have n5_ : Aside0 (w6.heap[b4]? = some (.cells #[.bool r1, .int .i64 r2, .bool false] 42 (0, 0))) := ⟨by rw [hw]; exact store3 B4.out⟩; clear HB B4 hw hfz0_ hfz1_ hfz2_ hz0 hz1 hz2; have HB := n2_; have B4 := n5_; clear n2_ n5_; have ht0 : w6.cell? ⟨b4, 0, none⟩ = some (.bool r1) := (blk_cell B4.out 0).trans rfl; have ht1 : w6.cell? ⟨b4, 1, none⟩ = some (.int .i64 r2) := (blk_cell B4.out 1).trans rfl))
      refine start_ (n := 7) (S := fun w' => w'.cell? ⟨b4, 0, none⟩ = some (.bool r1) ∧ w'.cell? ⟨b4, 1, none⟩ = some (.int .i64 r2)) (ds := []) #[false, false, false, false, false, false, false] (by kernel_rfl) rfl rfl ⟨ht0, ht1⟩ (fun hHeld => ?_)
      refine pure_ (i := 0) (N := some 25) (v := ?_) (a' := ?_) #[true, false, false, false, false, false, false] rfl rfl (by kernel_rfl) (fun _ _ _ h => h) (Or.inl ⟨by rfl, ?_⟩) ?_ ?_
      rotate_left
      · intro w'
        go_simp
        with_reducible rfl
      rotate_left
      · simp only [Act.put, List.setIfInBounds_toArray, List.set_cons_zero, List.set_cons_succ, i64_w, i32_w]
        rfl
      refine pure_ (i := 2) (N := some 27) (v := ?_) (a' := ?_) #[true, false, true, false, false, false, false] rfl rfl (by kernel_rfl) (fun _ _ _ h => h) (Or.inl ⟨by rfl, ?_⟩) ?_ ?_
      rotate_left
      · intro w'
        go_simp
        with_reducible rfl
      rotate_left
      · simp only [Act.put, List.setIfInBounds_toArray, List.set_cons_zero, List.set_cons_succ, i64_w, i32_w]
        rfl
      refine take_ (i := 1) (N := some 26) (v := ?_) (a' := ?_) #[true, true, true, false, false, false, false] rfl rfl (by kernel_rfl) (fun _ _ _ h => h) (Or.inl ⟨by rfl, ?_⟩) hHeld ?_ ?_
      rotate_left
      · rintro w' ⟨s0, s1⟩
        go_simp
        with_reducible rfl
      rotate_left
      · simp only [Act.put, List.setIfInBounds_toArray, List.set_cons_zero, List.set_cons_succ, i64_w, i32_w]
        rfl
      refine pure_ (i := 4) (N := some 6) (v := ?_) (a' := ?_) #[true, true, true, false, true, false, false] rfl rfl (by kernel_rfl) (fun _ _ _ h => h) (Or.inl ⟨by rfl, ?_⟩) ?_ ?_
      rotate_left
      · intro w'
        go_simp
        with_reducible rfl
      rotate_left
      · simp only [Act.put, List.setIfInBounds_toArray, List.set_cons_zero, List.set_cons_succ, i64_w, i32_w]
        rfl
      refine take_ (i := 3) (N := some 28) (v := ?_) (a' := ?_) #[true, true, true, true, true, false, false] rfl rfl (by kernel_rfl) (fun _ _ _ h => h) (Or.inl ⟨by rfl, ?_⟩) hHeld ?_ ?_
      rotate_left
      · rintro w' ⟨s0, s1⟩
        go_simp
        with_reducible rfl
      rotate_left
      · simp only [Act.put, List.setIfInBounds_toArray, List.set_cons_zero, List.set_cons_succ, i64_w, i32_w]
        rfl
      refine pure_ (i := 5) (N := some 7) (v := ?_) (a' := ?_) #[true, true, true, true, true, true, false] rfl rfl (by kernel_rfl) (fun _ _ _ h => h) (Or.inl ⟨by rfl, ?_⟩) ?_ ?_
      rotate_left
      · intro w'
        go_simp
        with_reducible rfl
      rotate_left
      · simp only [Act.put, List.setIfInBounds_toArray, List.set_cons_zero, List.set_cons_succ, i64_w, i32_w]
        rfl
      refine pure_ (i := 6) (N := some 8) (v := ?_) (a' := ?_) #[true, true, true, true, true, true, true] rfl rfl (by kernel_rfl) (fun _ _ _ h => h) (Or.inl ⟨by rfl, ?_⟩) ?_ ?_
      rotate_left
      · intro w'
        go_simp
        with_reducible rfl
      rotate_left
      · simp only [Act.put, List.setIfInBounds_toArray, List.set_cons_zero, List.set_cons_succ, i64_w, i32_w]
        rfl
      refine done_ (by kernel_rfl) ?_
      go_wp2
      go_ret3
      exact ⟨rfl, HB.out.drew⟩
  | false =>
    rw [hgd] at HG
    rw [if_neg (by intro hc; rw [hgd] at hc; exact absurd hc.1 (by decide))] at hq
    obtain ⟨rfl, hq2⟩ := Prod.mk.inj hq
    obtain ⟨rfl, rfl⟩ := Prod.mk.inj hq2
    clear hgd hq hq2
    go_enter Try.func11, Try.ntmps11
    go_wp2_with (go_at_call 16; with_reducible refine (HG.out _).mono ?_; rintro e_ w_ ⟨rfl, rfl⟩)
    go_ret3
    exact ⟨rfl, HB.out⟩


end Go.Proofs.Yteboofglcnceoaa.PrintA
