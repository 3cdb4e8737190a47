-- written by this session's own driver (wip/gen.py) with the kit's print and contracts of our own
import Derived.Test.YtiahedkmlacpkaaPrintS0
import Derived.Test.YtiahedkmlacpkaaPrintS8
import Derived.Test.YtiahedkmlacpkaaPrintS13
import Derived.Test.YtiahedkmlacpkaaPrintS18
namespace Go.Proofs.Ytiahedkmlacpkaa.PrintS
open Go.RowKit Go.Proofs.YtiahedkmlacpkaaLib Go.Proofs.YtiahedkmlacpkaaW.PrintWords Go.Proofs.YtiahedkmlacpkaaW.PrintLast Go.Proofs.YtiahedkmlacpkaaW.PrintMore
attribute [local go_sem] max2_int min2_int max_two min_two max_three min_three max_four min_four   -- for this text's walks alone
set_option linter.unusedVariables false
set_option linter.unusedSimpArgs false

/-! ### impl_BestShares: function 30, a contract of our own -/
def impl_BestShares.f (a0 : Int) (l1 : List Int) : Option (List Int × Int × Bool) := if l1.length ≤ 1000000 then some (if hAsk a0 l1 = true then ((sBest a0.toNat l1).1, (sBest a0.toNat l1).2, true) else ([], 0, false)) else none
set_option maxHeartbeats 8000000 in
set_option maxRecDepth 100000 in
theorem impl_BestShares.calls (a0 : Int) (A1 : Option Addr) (c1 : Nat) (l1 : List Int) (r1 : List Int) (r2 : Int) (r3 : Bool) (w : World) (hr1 : Kd.C (Kd.int .i64) w A1 l1.length l1) (hc1 : l1.length ≤ c1) (h : impl_BestShares.f a0 l1 = some (r1, r2, r3)) :
    Calls Try.prog 30 #[.int .i64 a0, .slice A1 l1.length c1] w fun e w' => ∃ v0_ : Value, e = .returned (.tuple #[v0_, .int .i64 r2, .bool r3]) ∧ Kd.R (Kd.int .i64) 3 w' w.heap.size (fun _ => True) v0_ r1 ∧ Below w.heap.size w w' := by
  have HB := Aside0.mk (Below.refl w.heap.size w)
  unfold impl_BestShares.f at h
  by_cases hl : l1.length ≤ 1000000
  case neg => rw [if_neg hl] at h; cases h
  rw [if_pos hl] at h
  have hq := Option.some.inj h
  have HG : Aside0 (∀ W, Below w.heap.size w W → Calls Try.prog 61 #[.int .i64 a0, .slice A1 l1.length c1] W fun e w' => e = .returned (.bool (hAsk a0 l1)) ∧ Below W.heap.size W w') := ⟨fun W hb => impl_isStocked.calls (l1.length + 1) a0 A1 c1 l1 _ W (Kd.C_below hr1 hb) hc1 (isStocked_is a0 l1 hl _ (by omega))⟩
  clear h
  cases hgd : hAsk a0 l1 with
  | true =>
    rw [hgd] at HG
    rw [if_pos hgd] at hq
    obtain ⟨g1, g2, g3, g4, g5⟩ := hAsk_true hgd
    have hnn := hNeed_nonneg l1
    obtain ⟨e, he⟩ : ∃ e : Nat, a0 = (e : Int) := ⟨a0.toNat, by omega⟩
    have HF : Aside0 (∀ W, Below w.heap.size w W → Calls Try.prog 62 #[.int .i64 a0, .slice A1 l1.length c1] W fun e_ w' => ∃ v, e_ = .returned (.tuple #[v, .int .i64 r2]) ∧ Kd.R (Kd.int .i64) 3 w' W.heap.size (fun _ => True) v r1 ∧ Below W.heap.size W w') := ⟨fun W hb => by
      have h := bestShares_calls e (by omega) l1 l1.length rfl g1 g2 A1 c1 W (Kd.C_below hr1 hb)
      have e1 : a0.toNat = e := by omega
      rw [e1] at hq
      obtain ⟨q1, q2⟩ := Prod.mk.inj hq
      obtain ⟨q2, q3⟩ := Prod.mk.inj q2
      rw [q1, q2] at h
      rw [he]
      exact h⟩
    obtain ⟨_, q2⟩ := Prod.mk.inj hq
    obtain ⟨_, q3⟩ := Prod.mk.inj q2
    subst q3
    clear hgd hq q2 hnn g1 g2 g3 g4 g5 hr1 hl he
    go_enter Try.func30, Try.ntmps30
    go_wp2_with (first
      | (go_at_call 61; with_reducible refine (HG.out _ HB.out).mono ?_; rintro e_ w2 ⟨rfl, hb⟩; have n0_ := Aside0.mk (below_step HB.out hb); clear HB hb; have HB := n0_; clear n0_)
      | (go_at_call 62; with_reducible refine (HF.out _ HB.out).mono ?_; rintro e_ w3 ⟨v, rfl, hr, hb⟩; have HO := Aside0.mk (Kd.R_lower hr HB.out.size); have n0_ := Aside0.mk (below_step HB.out hb); clear HB hr hb; have HB := n0_; clear n0_))
    go_ret3
    exact ⟨_, rfl, HO.out, HB.out⟩
  | false =>
    rw [hgd] at HG
    rw [if_neg (by rw [hgd]; decide)] at hq
    obtain ⟨rfl, q2⟩ := Prod.mk.inj hq
    obtain ⟨rfl, rfl⟩ := Prod.mk.inj q2
    clear hgd hq q2 hr1 hl
    go_enter Try.func30, Try.ntmps30
    go_wp2_with (go_at_call 61; with_reducible refine (HG.out _ HB.out).mono ?_; rintro e_ w2 ⟨rfl, hb⟩; have n0_ := Aside0.mk (below_step HB.out hb); clear HB hb; have HB := n0_; clear n0_)
    go_ret3
    exact ⟨_, rfl, Kd.R_nil _ _ _ _ _, HB.out⟩

end Go.Proofs.Ytiahedkmlacpkaa.PrintS
