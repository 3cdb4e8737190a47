-- written by this session's own driver (wip/gen.py) with the kit's print and contracts of our own
import Derived.Test.YtmclbiollhdbjaaPrintY0
import Derived.Test.YtmclbiollhdbjaaPrintY3
import Derived.Test.YtmclbiollhdbjaaPrintY6
namespace Go.Proofs.Ytmclbiollhdbjaa.PrintY
open Go.RowKit Go.Proofs.YtmclbiollhdbjaaLib Go.Proofs.YtmclbiollhdbjaaW.PrintWords Go.Proofs.YtmclbiollhdbjaaW.PrintLast Go.Proofs.YtmclbiollhdbjaaW.PrintMore
attribute [local go_sem] max2_int min2_int max_two min_two max_three min_three max_four min_four   -- for this text's walks alone
set_option linter.unusedVariables false
set_option linter.unusedSimpArgs false

/-! behind spec_trTests -/
theorem toL_split (b a : Tr) (fr : Int) (h0 : 0 ≤ fr) (h1 : fr ≤ 1000000) (hs : b.size ≤ 1000000) : spec_trSplit.f ((Tr.node b a).toL fr) fr = some (b.size : Int) := by
  unfold spec_trSplit.f
  have e : wrap64 (fr + (b.size : Int) - fr) = b.size := by unfold wrap64; omega
  have h : 0 < (((Tr.node b a).toL fr).length : Int) := by rw [Tr.toL_length]; simp only [Tr.size]; omega
  rw [if_pos h]
  simp only [Tr.toL, rd_cons0]
  rw [e]
theorem spec_trTests_is : ∀ (t : Tr) (fr : Int) (k : Nat), t.size < k → t.size ≤ 1000 → 0 ≤ fr → fr ≤ 100000 - t.size → spec_trTests.f k (t.toL fr) fr = some (t.tests, t.eggs, t.sum) := by
  intro t
  induction t with
  | nil =>
    intro fr k hk _ _ _
    obtain ⟨k, rfl⟩ : ∃ m, k = m + 1 := ⟨k - 1, by omega⟩
    simp only [spec_trTests.f]
    rw [if_pos (show ((Tr.nil.toL _).length : Int) = 0 from rfl)]
    rfl
  | node b a ihb iha =>
    intro fr k hk hs h0 h1
    obtain ⟨k, rfl⟩ : ∃ m, k = m + 1 := ⟨k - 1, by omega⟩
    have hsz : (Tr.node b a).size = b.size + a.size + 1 := rfl
    have hln := Tr.toL_length (Tr.node b a) fr
    rw [hsz] at hln hk hs h1
    have hsp := toL_split b a fr h0 (by omega) (by omega)
    have htk := toL_take b a fr
    have hdr := toL_drop b a fr
    have hrd : rd ((Tr.node b a).toL fr) 0 = fr + b.size := rfl
    generalize (Tr.node b a).toL fr = l at hln hsp htk hdr hrd ⊢
    have e3 : wrap64 (1 + (b.size : Int)) = ((b.size + 1 : Nat) : Int) := by unfold wrap64; omega
    have e5 : wrap64 (fr + b.size + 1) = fr + b.size + 1 := by unfold wrap64; omega
    have j1 := ihb fr k (by omega) (by omega) h0 (by omega)
    have j2 := iha (fr + b.size + 1) k (by omega) (by omega) (by omega) (by omega)
    simp only [spec_trTests.f]
    rw [if_neg (by omega : ¬ (l.length : Int) = 0), hsp, Option.bind_some, e3, if_pos (by omega : (1 : Int) ≤ ((b.size + 1 : Nat) : Int)), if_pos (by omega : ((b.size + 1 : Nat) : Int) ≤ (l.length : Int)), Int.toNat_natCast, htk, j1, Option.bind_some,
      if_pos (by omega : (0 : Int) ≤ ((b.size + 1 : Nat) : Int)), if_pos (by omega : (0 : Int) < (l.length : Int)), hdr, hrd, e5, j2, Option.bind_some]
    rw [spec_l1Most_is, Option.bind_some, spec_l1Most_is, Option.bind_some]
    have r1 := b.tests_range
    have r2 := a.tests_range
    have r3 := b.eggs_range
    have r4 := a.eggs_range
    have r5 := b.sum_range (by omega)
    have r6 := a.sum_range (by omega)
    clear ihb iha
    simp only [Tr.tests, Tr.eggs, Tr.sum]
    rw [hln]
    have w1 : wrap64 (b.eggs + 1) = b.eggs + 1 := by unfold wrap64; omega
    have w2 : wrap64 (1 + max b.tests a.tests) = 1 + max b.tests a.tests := by unfold wrap64; omega
    have w3 : wrap64 (b.sum + a.sum) = b.sum + a.sum := by unfold wrap64; omega
    have w4 : wrap64 (b.sum + a.sum + ((b.size + a.size + 1 : Nat) : Int)) = b.sum + a.sum + (b.size + a.size + 1) := by unfold wrap64; omega
    have w5 : wrap64 (b.sum + a.sum + (b.size + a.size + 1) + 1) = b.sum + a.sum + (b.size + a.size + 1) + 1 := by unfold wrap64; omega
    rw [w1, w2, w3, w4, w5]

/-! ### spec_l1Least: function 69 -/
def spec_l1Least.f (a0 : Int) (a1 : Int) : Option (Int) := if a0 < a1 then (some a0) else (some a1)
set_option maxHeartbeats 8000000 in
set_option maxRecDepth 100000 in
theorem spec_l1Least.calls (a0 : Int) (a1 : Int) (r : Int) (w : World) (h : spec_l1Least.f a0 a1 = some r) :
    Calls Try.prog 69 #[.int .i64 a0, .int .i64 a1] w fun e w' => e = .returned (.int .i64 r) ∧ Drawn0 w w' := by
  have H : (if a0 < a1 then (some a0) else (some a1)) = some r := h
  clear h
  by_cases c3 : a0 < a1
  · rw [if_pos c3] at H
    have c3b0 : decide (a0 < a1) = true := decide_eq_true c3
    clear c3
    obtain rfl := Option.some.inj H
    go_enter Try.func69, Try.ntmps69
    go_wp2
    go_ret
    exact ⟨by first | rfl | (simp; done) | (simp [*]; done), by repeat (first | exact Drawn0.refl _ | apply Drawn0.step)⟩
  · rw [if_neg c3] at H
    have c3b0 : decide (a0 < a1) = false := decide_eq_false c3
    clear c3
    obtain rfl := Option.some.inj H
    go_enter Try.func69, Try.ntmps69
    go_wp2
    go_ret
    exact ⟨by first | rfl | (simp; done) | (simp [*]; done), by repeat (first | exact Drawn0.refl _ | apply Drawn0.step)⟩

set_option maxHeartbeats 8000000 in
set_option maxRecDepth 100000 in
theorem spec_l1Least.calls0 (a0 : Int) (a1 : Int) (r : Int) (w : World) (h : spec_l1Least.f a0 a1 = some r) :
    Calls Try.prog 69 #[.int .i64 a0, .int .i64 a1] w fun e w' => e = .returned (.int .i64 r) ∧ w = w' := by
  have H : (if a0 < a1 then (some a0) else (some a1)) = some r := h
  clear h
  by_cases c3 : a0 < a1
  · rw [if_pos c3] at H
    have c3b0 : decide (a0 < a1) = true := decide_eq_true c3
    clear c3
    obtain rfl := Option.some.inj H
    go_enter Try.func69, Try.ntmps69
    go_wp2
    go_ret
    exact ⟨by first | rfl | (simp; done) | (simp [*]; done), by first | rfl | simp⟩
  · rw [if_neg c3] at H
    have c3b0 : decide (a0 < a1) = false := decide_eq_false c3
    clear c3
    obtain rfl := Option.some.inj H
    go_enter Try.func69, Try.ntmps69
    go_wp2
    go_ret
    exact ⟨by first | rfl | (simp; done) | (simp [*]; done), by first | rfl | simp⟩

/-! behind spec_l1Least -/
theorem spec_l1Least_is (a b : Int) : spec_l1Least.f a b = some (min a b) := by
  unfold spec_l1Least.f
  by_cases h : a < b
  · rw [if_pos h, show min a b = a by omega]
  · rw [if_neg h, show min a b = b by omega]

end Go.Proofs.Ytmclbiollhdbjaa.PrintY
