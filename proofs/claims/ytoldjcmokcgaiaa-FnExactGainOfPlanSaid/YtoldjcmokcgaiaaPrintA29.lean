-- written by this session's own driver (wip/gen.py) with the kit's print and contracts of our own
import Derived.Test.YtoldjcmokcgaiaaPrintA0
import Derived.Test.YtoldjcmokcgaiaaPrintA7
import Derived.Test.YtoldjcmokcgaiaaPrintA10
import Derived.Test.YtoldjcmokcgaiaaPrintA11
import Derived.Test.YtoldjcmokcgaiaaPrintA13
import Derived.Test.YtoldjcmokcgaiaaPrintA14
import Derived.Test.YtoldjcmokcgaiaaPrintA23
import Derived.Test.YtoldjcmokcgaiaaPrintA24
import Derived.Test.YtoldjcmokcgaiaaPrintA28
namespace Go.Proofs.Ytoldjcmokcgaiaa.PrintA
open Go.RowKit Go.Proofs.YtoldjcmokcgaiaaLib Go.Proofs.YtoldjcmokcgaiaaW.PrintWords Go.Proofs.YtoldjcmokcgaiaaW.PrintLast Go.Proofs.YtoldjcmokcgaiaaW.PrintMore
attribute [local go_sem] max2_int min2_int max_two min_two max_three min_three max_four min_four   -- for this text's walks alone
set_option linter.unusedVariables false
set_option linter.unusedSimpArgs false

/-! ### impl_BestShares: function 29, a contract of our own -/
def impl_BestShares.f (a0 : Int) (l1 : List Int) : Option (List Int × Int × Bool) := if l1.length ≤ 1000000 then some (if hAsk a0 l1 = true then ((sBest a0.toNat l1).1, (sBest a0.toNat l1).2, true) else ([], 0, false)) else none
set_option maxHeartbeats 8000000 in
set_option maxRecDepth 100000 in
theorem impl_BestShares.calls (a0 : Int) (A1 : Option Addr) (c1 : Nat) (l1 : List Int) (r1 : List Int) (r2 : Int) (r3 : Bool) (w : World) (hr1 : Kd.C (Kd.int .i64) w A1 l1.length l1) (hc1 : l1.length ≤ c1) (h : impl_BestShares.f a0 l1 = some (r1, r2, r3)) :
    Calls Try.prog 29 #[.int .i64 a0, .slice A1 l1.length c1] w fun e w' => ∃ v0_ : Value, e = .returned (.tuple #[v0_, .int .i64 r2, .bool r3]) ∧ Kd.R (Kd.int .i64) 3 w' w.heap.size (fun _ => True) v0_ r1 ∧ Below w.heap.size w w' := by
  have HB := Aside0.mk (Below.refl w.heap.size w)
  unfold impl_BestShares.f at h
  by_cases hl : l1.length ≤ 1000000
  case neg => rw [if_neg hl] at h; cases h
  rw [if_pos hl] at h
  have hq := Option.some.inj h
  have HG : Aside0 (∀ W, Below w.heap.size w W → Calls Try.prog 21 #[.int .i64 a0, .slice A1 l1.length c1] W fun e w' => e = .returned (.bool (hAsk a0 l1)) ∧ Below W.heap.size W w') := ⟨fun W hb => impl_isStocked.calls (l1.length + 1) a0 A1 c1 l1 _ W (Kd.C_below hr1 hb) hc1 (isStocked_is a0 l1 hl _ (by omega))⟩
  clear h
  cases hgd : hAsk a0 l1 with
  | true =>
    rw [hgd] at HG
    rw [if_pos hgd] at hq
    obtain ⟨g1, g2, g3, g4, g5⟩ := hAsk_true hgd
    have hnn := hNeed_nonneg l1
    obtain ⟨e, he⟩ : ∃ e : Nat, a0 = (e : Int) := ⟨a0.toNat, by omega⟩
    have HF : Aside0 (∀ W, Below w.heap.size w W → Calls Try.prog 41 #[.int .i64 a0, .slice A1 l1.length c1] W fun e_ w' => ∃ v, e_ = .returned (.tuple #[v, .int .i64 r2]) ∧ Kd.R (Kd.int .i64) 3 w' W.heap.size (fun _ => True) v r1 ∧ Below W.heap.size W w') := ⟨fun W hb => by
      have h := bestShares_calls e (by omega) l1 l1.length rfl g1 g2 A1 c1 W (Kd.C_below hr1 hb)
      have e1 : a0.toNat = e := by omega
      rw [e1] at hq
      obtain ⟨q1, q2⟩ := Prod.mk.inj hq
      obtain ⟨q2, q3⟩ := Prod.mk.inj q2
      rw [q1, q2] at h
      rw [he]
      exact h⟩
    obtain ⟨_, q2⟩ := Prod.mk.inj hq
    obtain ⟨_, q3⟩ := Prod.mk.inj q2
    subst q3
    clear hgd hq q2 hnn g1 g2 g3 g4 g5 hr1 hl he
    go_enter Try.func29, Try.ntmps29
    go_wp2_with (first
      | (go_at_call 21; with_reducible refine (HG.out _ HB.out).mono ?_; rintro e_ w2 ⟨rfl, hb⟩; have n0_ := Aside0.mk (below_step HB.out hb); clear HB hb; have HB := n0_; clear n0_)
      | (go_at_call 41; with_reducible refine (HF.out _ HB.out).mono ?_; rintro e_ w3 ⟨v, rfl, hr, hb⟩; have HO := Aside0.mk (Kd.R_lower hr HB.out.size); have n0_ := Aside0.mk (below_step HB.out hb); clear HB hr hb; have HB := n0_; clear n0_))
    go_ret3
    exact ⟨_, rfl, HO.out, HB.out⟩
  | false =>
    rw [hgd] at HG
    rw [if_neg (by rw [hgd]; decide)] at hq
    obtain ⟨rfl, q2⟩ := Prod.mk.inj hq
    obtain ⟨rfl, rfl⟩ := Prod.mk.inj q2
    clear hgd hq q2 hr1 hl
    go_enter Try.func29, Try.ntmps29
    go_wp2_with (go_at_call 21; with_reducible refine (HG.out _ HB.out).mono ?_; rintro e_ w2 ⟨rfl, hb⟩; have n0_ := Aside0.mk (below_step HB.out hb); clear HB hb; have HB := n0_; clear n0_)
    go_ret3
    exact ⟨_, rfl, Kd.R_nil _ _ _ _ _, HB.out⟩

/-! ### impl_GainOfPlan: function 16, a contract of our own -/
def impl_GainOfPlan.f (a0 : Int) (l1 : List Int) : Option (Int × Bool) := if l1.length ≤ 1000000 then some (if hAsk a0 l1 = true then (sBest a0.toNat l1).2 - hVal a0 l1 else 0, hAsk a0 l1) else none
theorem gain_same (a0 : Int) (l1 : List Int) : impl_GainOfPlan.f a0 l1 = spec_GainOfPlan.f a0 l1 := by
  unfold impl_GainOfPlan.f spec_GainOfPlan.f
  by_cases hl : l1.length ≤ 1000000
  · rw [if_pos hl, if_pos hl]
    by_cases hg : hAsk a0 l1 = true
    · obtain ⟨g1, g2, g3, g4, g5⟩ := hAsk_true hg
      have hnn := hNeed_nonneg l1
      have hb := (sBest_is a0.toNat l1 g1 g3 g2 (by omega)).1
      have e1 : sBest a0.toNat l1 = sHs (fun c => shL l1 c 0) l1.length a0.toNat [] := hb
      rw [e1]
    · rw [if_neg hg, if_neg hg]
  · rw [if_neg hl, if_neg hl]
set_option maxHeartbeats 8000000 in
set_option maxRecDepth 100000 in
theorem impl_GainOfPlan.calls (a0 : Int) (A1 : Option Addr) (c1 : Nat) (l1 : List Int) (r1 : Int) (r2 : Bool) (w : World) (hr1 : Kd.C (Kd.int .i64) w A1 l1.length l1) (hc1 : l1.length ≤ c1) (h : impl_GainOfPlan.f a0 l1 = some (r1, r2)) :
    Calls Try.prog 16 #[.int .i64 a0, .slice A1 l1.length c1] w fun e w' => e = .returned (.tuple #[.int .i64 r1, .bool r2]) ∧ Below w.heap.size w w' := by
  have HB := Aside0.mk (Below.refl w.heap.size w)
  unfold impl_GainOfPlan.f at h
  by_cases hl : l1.length ≤ 1000000
  case neg => rw [if_neg hl] at h; cases h
  rw [if_pos hl] at h
  obtain ⟨hq1, hq2⟩ := Prod.mk.inj (Option.some.inj h)
  subst hq2
  clear h
  cases hgd : hAsk a0 l1 with
  | true =>
    rw [if_pos hgd] at hq1
    obtain ⟨g1, g2, g3, g4, g5⟩ := hAsk_true hgd
    have hnn := hNeed_nonneg l1
    have hval := (hVal_24 a0 l1 g3 g2 g4)
    have hvr := hVal_range a0 l1
    have hbi := sBest_is a0.toNat l1 g1 g3 g2 (by omega)
    have hbr : (sBest a0.toNat l1).2 < 1000 ∧ 0 ≤ (sBest a0.toNat l1).2 := by
      have e1 : sBest a0.toNat l1 = sHs (fun c => shL l1 c 0) l1.length a0.toNat [] := hbi.1
      rw [e1]; exact hbi.2
    have HG : Aside0 (Calls Try.prog 29 #[.int .i64 a0, .slice A1 l1.length c1] w fun e_ w' => ∃ v, e_ = .returned (.tuple #[v, .int .i64 (sBest a0.toNat l1).2, .bool true]) ∧ Below w.heap.size w w') := ⟨by
      have h := impl_BestShares.calls a0 A1 c1 l1 (sBest a0.toNat l1).1 (sBest a0.toNat l1).2 true w hr1 hc1 (by unfold impl_BestShares.f; rw [if_pos hl, if_pos hgd])
      refine h.mono ?_
      rintro e_ w_ ⟨v, rfl, _, hb⟩
      exact ⟨v, rfl, hb⟩⟩
    obtain ⟨v, hv⟩ : ∃ v, hVA a0 l1 = v := ⟨_, rfl⟩
    have HV : Aside0 (∀ W, Below w.heap.size w W → Calls Try.prog 23 #[.int .i64 a0, .slice A1 l1.length c1] W fun e_ w' => e_ = .returned v ∧ Below W.heap.size W w') := ⟨fun W hb => by
      rw [← hv]
      exact village_is a0 l1 l1.length rfl g1 g2 A1 c1 W (Kd.C_below hr1 hb)⟩
    have HF : Aside0 (∀ (mb : Nat) (W : World), HMemo W mb → Calls Try.prog 22 #[.map (some mb), v] W fun e' w' => e' = .returned (.int .i64 (hVal a0 l1)) ∧ HMemo w' mb ∧ KeptM W w' mb) := ⟨fun mb W h => by
      rw [← hv]
      exact hleast_of a0 l1 g1 g2 g3 (by omega) g5 mb W h⟩
    generalize (sBest a0.toNat l1).2 = x1 at HG hq1 hbr
    generalize hVal a0 l1 = y at HF hq1 hval hvr
    have hw1 : IntKind.i64.wrap (x1 - y) = x1 - y := by rw [i64_w]; unfold wrap64; omega
    subst hq1
    clear hgd hnn hbi hbr hval hvr g1 g2 g3 g4 g5 hr1 hl hv
    have hmm := @run_makeMap Try.prog
    go_enter Try.func16, Try.ntmps16
    go_wp2_with (first
      | (go_at_call 29; with_reducible refine (HG.out).mono ?_; rintro e_ w2 ⟨vb_, rfl, hb⟩; have n1_ := Aside0.mk (below_alloc hb (.map #[] 0)); have HMB := Aside0.mk hb.size; have HM := Aside0.mk (HMemo.start w2); clear HB hb; have HB := n1_; clear n1_)
      | (go_at_call 23; with_reducible refine (HV.out _ HB.out).mono ?_; rintro e_ w3 ⟨rfl, hb⟩; have n0_ := Aside0.mk (below_step HB.out hb); have n1_ := Aside0.mk (HMemo.below HM.out hb); clear HB HM hb; have HB := n0_; have HM := n1_; clear n0_ n1_)
      | (go_at_call 22; with_reducible refine (HF.out _ _ HM.out).mono ?_; rintro e_ w4 ⟨rfl, hM, hk⟩; have n0_ := Aside0.mk ((KeptM.then_ ⟨Kept.of_below HB.out _, HB.out.mono (Nat.zero_le _)⟩ hk).new HMB.out); clear HB HM hM hk; have HB := n0_; clear n0_))
    go_ret2
    exact ⟨rfl, HB.out⟩
  | false =>
    rw [if_neg (by rw [hgd]; decide)] at hq1
    subst hq1
    have HG : Aside0 (Calls Try.prog 29 #[.int .i64 a0, .slice A1 l1.length c1] w fun e_ w' => ∃ v, e_ = .returned (.tuple #[v, .int .i64 0, .bool false]) ∧ Below w.heap.size w w') := ⟨by
      have h := impl_BestShares.calls a0 A1 c1 l1 [] 0 false w hr1 hc1 (by unfold impl_BestShares.f; rw [if_pos hl, if_neg (by rw [hgd]; decide)])
      refine h.mono ?_
      rintro e_ w_ ⟨v, rfl, _, hb⟩
      exact ⟨v, rfl, hb⟩⟩
    clear hgd hr1 hl
    go_enter Try.func16, Try.ntmps16
    go_wp2_with (go_at_call 29; with_reducible refine (HG.out).mono ?_; rintro e_ w2 ⟨vb_, rfl, hb⟩; have n0_ := Aside0.mk hb; clear HB hb; have HB := n0_; clear n0_)
    go_ret2
    exact ⟨rfl, HB.out⟩


end Go.Proofs.Ytoldjcmokcgaiaa.PrintA
