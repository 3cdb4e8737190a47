-- written by this session's own driver (wip/gen.py) with the kit's print and contracts of our own
import Derived.Test.YtoldjcmokcgaiaaPrintA0
import Derived.Test.YtoldjcmokcgaiaaPrintA14
import Derived.Test.YtoldjcmokcgaiaaPrintA18
import Derived.Test.YtoldjcmokcgaiaaPrintA21
import Derived.Test.YtoldjcmokcgaiaaPrintA22
import Derived.Test.YtoldjcmokcgaiaaPrintA24
import Derived.Test.YtoldjcmokcgaiaaPrintA25
namespace Go.Proofs.Ytoldjcmokcgaiaa.PrintA
open Go.RowKit Go.Proofs.YtoldjcmokcgaiaaLib Go.Proofs.YtoldjcmokcgaiaaW.PrintWords Go.Proofs.YtoldjcmokcgaiaaW.PrintLast Go.Proofs.YtoldjcmokcgaiaaW.PrintMore
attribute [local go_sem] max2_int min2_int max_two min_two max_three min_three max_four min_four   -- for this text's walks alone
set_option linter.unusedVariables false
set_option linter.unusedSimpArgs false

/-! ### impl_FewestForHouses: function 8, a contract of our own -/
theorem isStocked_is (e : Int) (l : List Int) (hl : l.length ≤ 1000000) (k : Nat) (hk : l.length < k) : impl_isStocked.f k e l = some (hAsk e l) := by
  unfold impl_isStocked.f hAsk
  rw [(hoGood_is l hl k hk).2, Option.bind_some]
  cases hg : hGood l with
  | true =>
    rw [if_pos rfl, impl_needed_is, hoNeeded_isk l (hGood_true hg).2.1 k hk, Option.bind_some, impl_within_is]
    rfl
  | false => rfl
theorem hleast_of (e : Int) (l : List Int) (h1 : 1 ≤ l.length) (h3 : l.length ≤ 3) (hk : hOk l) (h0 : 0 ≤ e) (h6 : e ≤ 6) (mb : Nat) (W : World) (hM : HMemo W mb) :
    Calls Try.prog 22 #[.map (some mb), hVA e l] W fun e' w' => e' = .returned (.int .i64 (hVal e l)) ∧ HMemo w' mb ∧ KeptM W w' mb := by
  have h := HLeastC_all 25 e (l.getD 0 0) (l.getD 1 0) (l.getD 2 0) mb W (hPad_ok hk) h0 h6 (by have := hSum_le3 (hPad l) (hPad_ok hk) (by simp [hPad]); exact Nat.lt_succ_of_le this) hM
  have e1 : hVal e [l.getD 0 0, l.getD 1 0, l.getD 2 0] = hVal e l := hVal_pad e l h1 h3
  rw [e1] at h
  exact h
def impl_FewestForHouses.f (a0 : Int) (l1 : List Int) : Option (Int × Bool) := if l1.length ≤ 1000000 then some (if hAsk a0 l1 = true then hVal a0 l1 else 0, hAsk a0 l1) else none
set_option maxHeartbeats 8000000 in
set_option maxRecDepth 100000 in
theorem impl_FewestForHouses.calls (a0 : Int) (A1 : Option Addr) (c1 : Nat) (l1 : List Int) (r1 : Int) (r2 : Bool) (w : World) (hr1 : Kd.C (Kd.int .i64) w A1 l1.length l1) (hc1 : l1.length ≤ c1) (h : impl_FewestForHouses.f a0 l1 = some (r1, r2)) :
    Calls Try.prog 8 #[.int .i64 a0, .slice A1 l1.length c1] w fun e w' => e = .returned (.tuple #[.int .i64 r1, .bool r2]) ∧ Below w.heap.size w w' := by
  have HB := Aside0.mk (Below.refl w.heap.size w)
  unfold impl_FewestForHouses.f at h
  by_cases hl : l1.length ≤ 1000000
  case neg => rw [if_neg hl] at h; cases h
  rw [if_pos hl] at h
  obtain ⟨hq1, hq2⟩ := Prod.mk.inj (Option.some.inj h)
  have HG : Aside0 (∀ W, Below w.heap.size w W → Calls Try.prog 21 #[.int .i64 a0, .slice A1 l1.length c1] W fun e w' => e = .returned (.bool (hAsk a0 l1)) ∧ Below W.heap.size W w') := ⟨fun W hb => impl_isStocked.calls (l1.length + 1) a0 A1 c1 l1 _ W (Kd.C_below hr1 hb) hc1 (isStocked_is a0 l1 hl _ (by omega))⟩
  subst hq2
  clear h
  cases hgd : hAsk a0 l1 with
  | true =>
    rw [hgd] at HG
    rw [if_pos hgd] at hq1
    obtain ⟨g1, g2, g3, g4, g5⟩ := hAsk_true hgd
    have hnn := hNeed_nonneg l1
    obtain ⟨v, hv⟩ : ∃ v, hVA a0 l1 = v := ⟨_, rfl⟩
    have HV : Aside0 (∀ W, Below w.heap.size w W → Calls Try.prog 23 #[.int .i64 a0, .slice A1 l1.length c1] W fun e_ w' => e_ = .returned v ∧ Below W.heap.size W w') := ⟨fun W hb => by
      rw [← hv]
      exact village_is a0 l1 l1.length rfl g1 g2 A1 c1 W (Kd.C_below hr1 hb)⟩
    have HF : Aside0 (∀ (mb : Nat) (W : World), HMemo W mb → Calls Try.prog 22 #[.map (some mb), v] W fun e' w' => e' = .returned (.int .i64 r1) ∧ HMemo w' mb ∧ KeptM W w' mb) := ⟨fun mb W h => by
      rw [← hv, ← hq1]
      exact hleast_of a0 l1 g1 g2 g3 (by omega) g5 mb W h⟩
    clear hgd hq1 hnn g1 g2 g3 g4 g5 hr1 hl hv
    have hmm := @run_makeMap Try.prog
    go_enter Try.func8, Try.ntmps8
    go_wp2_with (first
      | (go_at_call 21; with_reducible refine (HG.out _ HB.out).mono ?_; rintro e_ w2 ⟨rfl, hb⟩; have n0_ := Aside0.mk (below_step HB.out hb); have n1_ := Aside0.mk (below_alloc n0_.out (.map #[] 0)); have HMB := Aside0.mk n0_.out.size; have HM := Aside0.mk (HMemo.start w2); clear HB hb; have HB := n1_; clear n0_ n1_)
      | (go_at_call 23; with_reducible refine (HV.out _ HB.out).mono ?_; rintro e_ w3 ⟨rfl, hb⟩; have n0_ := Aside0.mk (below_step HB.out hb); have n1_ := Aside0.mk (HMemo.below HM.out hb); clear HB HM hb; have HB := n0_; have HM := n1_; clear n0_ n1_)
      | (go_at_call 22; with_reducible refine (HF.out _ _ HM.out).mono ?_; rintro e_ w4 ⟨rfl, hM, hk⟩; have n0_ := Aside0.mk ((KeptM.then_ ⟨Kept.of_below HB.out _, HB.out.mono (Nat.zero_le _)⟩ hk).new HMB.out); clear HB HM hM hk; have HB := n0_; clear n0_))
    go_ret2
    exact ⟨rfl, HB.out⟩
  | false =>
    rw [hgd] at HG
    rw [if_neg (by rw [hgd]; decide)] at hq1
    subst hq1
    clear hgd hr1 hl
    go_enter Try.func8, Try.ntmps8
    go_wp2_with (go_at_call 21; with_reducible refine (HG.out _ HB.out).mono ?_; rintro e_ w2 ⟨rfl, hb⟩; have n0_ := Aside0.mk (below_step HB.out hb); clear HB hb; have HB := n0_; clear n0_)
    go_ret2
    exact ⟨rfl, HB.out⟩


end Go.Proofs.Ytoldjcmokcgaiaa.PrintA
