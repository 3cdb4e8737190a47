-- written by this session's own driver (wip/gen.py) with the kit's print and contracts of our own
import Derived.Test.YteboofglcnceoaaPrintA0
import Derived.Test.YteboofglcnceoaaPrintA1
import Derived.Test.YteboofglcnceoaaPrintA4
import Derived.Test.YteboofglcnceoaaPrintA5
import Derived.Test.YteboofglcnceoaaPrintA12
import Derived.Test.YteboofglcnceoaaPrintA13
import Derived.Test.YteboofglcnceoaaPrintA15
import Derived.Test.YteboofglcnceoaaPrintA16
import Derived.Test.YteboofglcnceoaaPrintA21
import Derived.Test.YteboofglcnceoaaPrintA22
namespace Go.Proofs.Yteboofglcnceoaa.PrintA
open Go.RowKit Go.Proofs.YteboofglcnceoaaLib Go.Proofs.YteboofglcnceoaaW.PrintWords Go.Proofs.YteboofglcnceoaaW.PrintLast Go.Proofs.YteboofglcnceoaaW.PrintMore
attribute [local go_sem] max2_int min2_int max_two min_two max_three min_three max_four min_four   -- for this text's walks alone
set_option linter.unusedVariables false
set_option linter.unusedSimpArgs false

/-! ### spec_FewestForWeak: function 6, a contract of our own -/
def spec_FewestForWeak.f (a0 a1 a2 : Int) : Option (Int × Bool) := some (if kAsk a0 a1 a2 = true then kVal true (kStart a0 a1 a2) else 0, kAsk a0 a1 a2)
set_option maxHeartbeats 8000000 in
set_option maxRecDepth 100000 in
theorem spec_FewestForWeak.calls (a0 a1 a2 : Int) (r1 : Int) (r2 : Bool) (w : World) (h : spec_FewestForWeak.f a0 a1 a2 = some (r1, r2)) :
    Calls Try.prog 6 #[.int .i64 a0, .int .i64 a1, .int .i64 a2] w fun e w' => e = .returned (.tuple #[.int .i64 r1, .bool r2]) ∧ Below w.heap.size w w' := by
  have HB := Aside0.mk (Below.refl w.heap.size w)
  unfold spec_FewestForWeak.f at h
  obtain ⟨hq1, hq2⟩ := Prod.mk.inj (Option.some.inj h)
  have HG := Aside0.mk (fun (W : World) => spec_kiAsked.calls0 a0 a1 a2 (kAsk a0 a1 a2) W (kiAsked_is a0 a1 a2))
  subst hq2
  clear h
  cases hgd : kAsk a0 a1 a2 with
  | true =>
    rw [hgd] at HG
    rw [if_pos hgd] at hq1
    have hok := kStart_ok hgd
    have hval := (kStart_val true hgd).2
    have HF : Aside0 (∀ (g c : Nat) (W : World), Below w.heap.size w W → Kd.R (Kd.int .i64) 3 W w.heap.size (fun _ => True) (.slice (some ⟨g, 0, none⟩) 38416 c) kTab0 → Calls Try.prog 13 #[.slice (some ⟨g, 0, none⟩) 38416 c, .agg #[.int .i64 0, .int .i64 a2, .int .i64 0, .int .i64 a2, .int .i64 a0, .int .i64 a1], .bool false] W fun e' w' => e' = .returned (.int .i64 r1) ∧ Below w.heap.size w w') := ⟨fun g c W hb hr => by
      have := FewC_all true 13 38416 (kStart a0 a1 a2) g c kTab0 w W rfl hok (by have := kMu_le hok; omega) (KTab.start _) hb (r_int_ok hr (fun k hk => by rw [slice_ownB] at hk; injection hk with hk; exact hk.symm))
      refine this.mono ?_
      rintro e_ w_ ⟨t', rfl, _, _, h3, _⟩
      exact ⟨by rw [hval, hq1], h3⟩⟩
    have HST := Aside0.mk (fun (W : World) => spec_kiStart.calls a0 a1 a2 _ _ _ _ _ _ W rfl)
    clear hgd hq1 hok hval
    go_enter Try.func6, Try.ntmps6
    go_wp2_with (first
      | (go_at_call 12; with_reducible refine (HG.out _).mono ?_; rintro e_ w_ ⟨rfl, rfl⟩)
      | (go_at_call 14; with_reducible refine (kiTable_calls _).mono ?_; rintro e_ w2 ⟨g, c, rfl, hr, hb⟩; have HR := Aside0.mk (Kd.R_lower hr (below_size HB.out)); have n0_ := Aside0.mk (below_step HB.out hb); clear HB hb hr; have HB := n0_; clear n0_)
      | (go_at_call 15; with_reducible refine (HST.out _).mono ?_; rintro e_ w3 ⟨rfl, hb⟩; have n0_ := Aside0.mk (below_step HB.out hb); have n1_ := Aside0.mk (Kd.R_below HR.out hb); clear HB HR hb; have HB := n0_; have HR := n1_; clear n0_ n1_)
      | (go_at_call 13; with_reducible refine (HF.out _ _ _ HB.out HR.out).mono ?_; rintro e_ w4 ⟨rfl, hb⟩; have n0_ := Aside0.mk hb; clear HB hb; have HB := n0_; clear n0_))
    go_ret2
    exact ⟨rfl, HB.out⟩
  | false =>
    rw [hgd] at HG
    rw [if_neg (by rw [hgd]; decide)] at hq1
    subst hq1
    clear hgd
    go_enter Try.func6, Try.ntmps6
    go_wp2_with (go_at_call 12; with_reducible refine (HG.out _).mono ?_; rintro e_ w_ ⟨rfl, rfl⟩)
    go_ret2
    exact ⟨rfl, HB.out⟩

/-! ### impl_FewestForWeak: function 7, a contract of our own -/
def impl_FewestForWeak.f (a0 a1 a2 : Int) : Option (Int × Bool) := some (if kAsk a0 a1 a2 = true then kVal true (kStart a0 a1 a2) else 0, kAsk a0 a1 a2)
set_option maxHeartbeats 8000000 in
set_option maxRecDepth 100000 in
theorem impl_FewestForWeak.calls (a0 a1 a2 : Int) (r1 : Int) (r2 : Bool) (w : World) (h : impl_FewestForWeak.f a0 a1 a2 = some (r1, r2)) :
    Calls Try.prog 7 #[.int .i64 a0, .int .i64 a1, .int .i64 a2] w fun e w' => e = .returned (.tuple #[.int .i64 r1, .bool r2]) ∧ Below w.heap.size w w' := by
  have HB := Aside0.mk (Below.refl w.heap.size w)
  unfold impl_FewestForWeak.f at h
  obtain ⟨hq1, hq2⟩ := Prod.mk.inj (Option.some.inj h)
  have HG := Aside0.mk (fun (W : World) => impl_isKindHouse.calls0 a0 a1 a2 (kAsk a0 a1 a2) W (isKindHouse_is a0 a1 a2))
  subst hq2
  clear h
  cases hgd : kAsk a0 a1 a2 with
  | true =>
    rw [hgd] at HG
    rw [if_pos hgd] at hq1
    have hok := kStart_ok hgd
    have HF : Aside0 (∀ (gs mb : Nat) (W : World), gs ≠ mb → W.heap[gs]? = some (.cells #[.bool true, .map (some mb)] 52 (0, 0)) → Memo true W mb 0 → Calls Try.prog 18 #[.pointer (some ⟨gs, 0, none⟩), .agg #[.int .i64 0, .int .i64 a2, .int .i64 0, .int .i64 a2, .int .i64 a0, .int .i64 a1]] W fun e' w' => e' = .returned (.int .i64 r1) ∧ KeptM W w' mb) := ⟨fun gs mb W h1 h2 h3 => by
      have := LeastC_all true 13 (kStart a0 a1 a2) gs mb 0 W hok (by have := kMu_le hok; omega) (by decide) h1 h2 h3
      refine this.mono ?_
      rintro e_ w_ ⟨rfl, _, h5⟩
      exact ⟨by rw [hq1], h5⟩⟩
    have HST := Aside0.mk (fun (W : World) => impl_nothing.calls a0 a1 a2 _ _ _ _ _ _ W rfl)
    clear hgd hq1 hok
    go_enter Try.func7, Try.ntmps7
    go_wp2_with (first
      | (go_at_call 16; with_reducible refine (HG.out _).mono ?_; rintro e_ w_ ⟨rfl, rfl⟩)
      | (go_at_call 17; with_reducible refine (newSolver_calls true _).mono ?_; rintro e_ w2 ⟨gs, mb, rfl, hne, hS, hM, hb, hmb⟩; have NS := Aside0.mk hne; have KS := Aside0.mk hS; have HM := Aside0.mk hM; have HMB := Aside0.mk hmb; clear HB; have HB := Aside0.mk hb; clear hne hS hM hb hmb)
      | (go_at_call 19; with_reducible refine (HST.out _).mono ?_; rintro e_ w3 ⟨rfl, hb⟩; have n0_ := Aside0.mk (below_step HB.out hb); have n1_ := Aside0.mk (Memo.below HM.out hb); have n2_ := Aside0.mk (blk_below KS.out hb); clear HB HM KS hb; have HB := n0_; have HM := n1_; have KS := n2_; clear n0_ n1_ n2_)
      | (go_at_call 18; with_reducible refine (HF.out _ _ _ NS.out KS.out HM.out).mono ?_; rintro e_ w4 ⟨rfl, hk⟩; have n0_ := Aside0.mk ((KeptM.then_ ⟨Kept.of_below HB.out _, HB.out.mono (Nat.zero_le _)⟩ hk).new HMB.out); clear HB HM KS hk; have HB := n0_; clear n0_))
    go_ret2
    exact ⟨rfl, HB.out⟩
  | false =>
    rw [hgd] at HG
    rw [if_neg (by rw [hgd]; decide)] at hq1
    subst hq1
    clear hgd
    go_enter Try.func7, Try.ntmps7
    go_wp2_with (go_at_call 16; with_reducible refine (HG.out _).mono ?_; rintro e_ w_ ⟨rfl, rfl⟩)
    go_ret2
    exact ⟨rfl, HB.out⟩


end Go.Proofs.Yteboofglcnceoaa.PrintA
