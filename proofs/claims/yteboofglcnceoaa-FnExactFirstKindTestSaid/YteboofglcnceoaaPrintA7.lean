-- written by this session's own driver (wip/gen.py) with the kit's print and contracts of our own
import Derived.Test.YteboofglcnceoaaPrintA0
import Derived.Test.YteboofglcnceoaaPrintA6
namespace Go.Proofs.Yteboofglcnceoaa.PrintA
open Go.RowKit Go.Proofs.YteboofglcnceoaaLib Go.Proofs.YteboofglcnceoaaW.PrintWords Go.Proofs.YteboofglcnceoaaW.PrintLast Go.Proofs.YteboofglcnceoaaW.PrintMore
attribute [local go_sem] max2_int min2_int max_two min_two max_three min_three max_four min_four   -- for this text's walks alone
set_option linter.unusedVariables false
set_option linter.unusedSimpArgs false

/-! behind spec_kiMay -/
-- LIB Kinds
/-- Where the floors of a kind begin, and how many there are. -/
def kLo (k : KSt) (st : Bool) : Int := match st with
  | true => if k.s > 0 then k.c else 0
  | false => if k.w > 0 then k.a else 0
def kNu (k : KSt) (st : Bool) : Nat := match st with
  | true => kSn k
  | false => kWn k
theorem kRow_at (k : KSt) (st : Bool) : kRow st (kLo k st) (kNu k st) = kRow st (match st with | true => k.c | false => k.a) (kNu k st) := by
  cases st
  · simp only [kLo, kNu, kWn]
    split
    · rfl
    · simp [kRow]
  · simp only [kLo, kNu, kSn]
    split
    · rfl
    · simp [kRow]
theorem kTests_rows (k : KSt) : kTests k = kRow false (kLo k false) (kNu k false) ++ kRow true (kLo k true) (kNu k true) := by
  rw [kRow_at, kRow_at]; rfl
theorem kiMay_is (k : KSt) (hk : KOk k) (st : Bool) : spec_kiMay.f 1 k.a k.b k.c k.d k.w k.s st = some (kLo k st, kLo k st + (kNu k st : Int)) := by
  obtain ⟨a, b, c, d, we, se⟩ := k
  obtain ⟨h1, h2, h3, h4, h5, h6, h7, h8, h9, h10⟩ := hk
  simp only at h1 h2 h3 h4 h5 h6 h7 h8 h9 h10
  cases st
  · by_cases hw : we > 0
    · simp [spec_kiMay.f, spec_kiMay.j0, kLo, kNu, kWn, hw]; omega
    · simp [spec_kiMay.f, spec_kiMay.j0, kLo, kNu, kWn, hw]
  · by_cases hs : se > 0
    · simp [spec_kiMay.f, spec_kiMay.j0, kLo, kNu, kSn, hs]; omega
    · simp [spec_kiMay.f, spec_kiMay.j0, kLo, kNu, kSn, hs]

/-! ### spec_l1Least: function 26 -/
def spec_l1Least.f (a0 : Int) (a1 : Int) : Option (Int) := if a0 < a1 then (some a0) else (some a1)
set_option maxHeartbeats 8000000 in
set_option maxRecDepth 100000 in
theorem spec_l1Least.calls (a0 : Int) (a1 : Int) (r : Int) (w : World) (h : spec_l1Least.f a0 a1 = some r) :
    Calls Try.prog 26 #[.int .i64 a0, .int .i64 a1] w fun e w' => e = .returned (.int .i64 r) ∧ Drawn0 w w' := by
  have H : (if a0 < a1 then (some a0) else (some a1)) = some r := h
  clear h
  by_cases c3 : a0 < a1
  · rw [if_pos c3] at H
    have c3b0 : decide (a0 < a1) = true := decide_eq_true c3
    clear c3
    obtain rfl := Option.some.inj H
    go_enter Try.func26, Try.ntmps26
    go_wp2
    go_ret
    exact ⟨by first | rfl | (simp; done) | (simp [*]; done), by repeat (first | exact Drawn0.refl _ | apply Drawn0.step)⟩
  · rw [if_neg c3] at H
    have c3b0 : decide (a0 < a1) = false := decide_eq_false c3
    clear c3
    obtain rfl := Option.some.inj H
    go_enter Try.func26, Try.ntmps26
    go_wp2
    go_ret
    exact ⟨by first | rfl | (simp; done) | (simp [*]; done), by repeat (first | exact Drawn0.refl _ | apply Drawn0.step)⟩

set_option maxHeartbeats 8000000 in
set_option maxRecDepth 100000 in
theorem spec_l1Least.calls0 (a0 : Int) (a1 : Int) (r : Int) (w : World) (h : spec_l1Least.f a0 a1 = some r) :
    Calls Try.prog 26 #[.int .i64 a0, .int .i64 a1] w fun e w' => e = .returned (.int .i64 r) ∧ w = w' := by
  have H : (if a0 < a1 then (some a0) else (some a1)) = some r := h
  clear h
  by_cases c3 : a0 < a1
  · rw [if_pos c3] at H
    have c3b0 : decide (a0 < a1) = true := decide_eq_true c3
    clear c3
    obtain rfl := Option.some.inj H
    go_enter Try.func26, Try.ntmps26
    go_wp2
    go_ret
    exact ⟨by first | rfl | (simp; done) | (simp [*]; done), by first | rfl | simp⟩
  · rw [if_neg c3] at H
    have c3b0 : decide (a0 < a1) = false := decide_eq_false c3
    clear c3
    obtain rfl := Option.some.inj H
    go_enter Try.func26, Try.ntmps26
    go_wp2
    go_ret
    exact ⟨by first | rfl | (simp; done) | (simp [*]; done), by first | rfl | simp⟩

/-! behind spec_l1Least -/
theorem spec_l1Least_is (a b : Int) : spec_l1Least.f a b = some (min a b) := by
  unfold spec_l1Least.f
  by_cases h : a < b
  · rw [if_pos h, show min a b = a by omega]
  · rw [if_neg h, show min a b = b by omega]

end Go.Proofs.Yteboofglcnceoaa.PrintA
