-- written by this session's own driver (wip/gen.py) with the kit's print and contracts of our own
import Derived.Test.YtbiibhfcclfoiaaPrintA0
import Derived.Test.YtbiibhfcclfoiaaPrintA1
namespace Go.Proofs.Ytbiibhfcclfoiaa.PrintA
open Go.RowKit Go.Proofs.YtbiibhfcclfoiaaLib Go.Proofs.YtbiibhfcclfoiaaW.PrintWords Go.Proofs.YtbiibhfcclfoiaaW.PrintLast Go.Proofs.YtbiibhfcclfoiaaW.PrintMore
attribute [local go_sem] max2_int min2_int max_two min_two max_three min_three max_four min_four   -- for this text's walks alone
set_option linter.unusedVariables false
set_option linter.unusedSimpArgs false

/-! ### impl_roundReaches_cover: function 40, a contract of our own -/
-- LIB Rounds
/-- The cells of the table of rounds so far: hands, then rows of eggs; n cells of the rows are worked out. -/
def rrArr (h n i : Nat) : Int := if i = 0 then h else if i - 1 < n then rr h ((i - 1) / 11) ((i - 1) % 11) else 0
def IsRR (w : World) (g h : Nat) : Prop := ArrI w g 52 11012 (rrArr h 11011)
theorem IsRR.below {w w1 : World} {g h : Nat} (x : IsRR w g h) (hb : Below w.heap.size w w1) : IsRR w1 g h := ArrI.below x hb
theorem rrArr_at (h n t e : Nat) (he : e ≤ 10) (hn : t * 11 + e < n) : rrArr h n (1 + t * 11 + e) = rr h t e := by
  unfold rrArr
  rw [if_neg (by omega), if_pos (by omega), show (1 + t * 11 + e - 1) / 11 = t by omega, show (1 + t * 11 + e - 1) % 11 = e by omega]
theorem IsRR.at_ {w : World} {g h : Nat} (x : IsRR w g h) (t e : Nat) (ht : t ≤ 1000) (he : e ≤ 10) : w.cell? ⟨g, 1 + t * 11 + e, none⟩ = some (.int .i64 (rr h t e)) := by
  have := ArrI.cell x (1 + t * 11 + e) (by omega)
  rw [this, rrArr_at _ _ _ _ he (by omega)]
set_option maxHeartbeats 8000000 in
set_option maxRecDepth 100000 in
theorem cover_calls (g s e own : Nat) (R : Nat → Int) (w : World) (hx : ∀ q, q ≤ 10 → w.cell? ⟨g, 1 + s * 11 + q, none⟩ = some (.int .i64 (R q))) (hR : ∀ e, 0 ≤ R e ∧ R e ≤ 1000000000) (he : e ≤ 10) (ho : own ≤ e) (hs : s ≤ 999) :
    Calls Try.prog 40 #[.pointer (some ⟨g, 0, none⟩), .int .i64 ((s : Int) + 1), .int .i64 e, .int .i64 own] w fun e' w' => e' = .returned (.int .i64 (covR R e own)) ∧ w = w' := by
  have HX := Aside0.mk hx
  have HR := Aside0.mk hR
  have hzs : (s : Int) < 1001 := by omega
  have hzo : (own : Int) ≤ 10 := by omega
  clear hx hR
  go_enter Try.func40, Try.ntmps40
  go_wp2
  go_loopg [9, 10, 14] (own + 1) (fun gg v9 _ v14 wr => ∃ (j : Nat) (a : Int), v14 = .int .i64 j ∧ v9 = .int .i64 a ∧ j ≤ own + 1 ∧ own + 1 - j ≤ gg ∧ Aside0 (a = own + sumR R e j) ∧ w = wr)
  case atStart => exact ⟨0, own, rfl, rfl, by omega, by omega, ⟨by simp [sumR]⟩, rfl⟩
  case round =>
    obtain ⟨j, a, rfl, rfl, hj, hgg, HA, rfl⟩ := hrel
    by_cases hlt : j ≤ own
    · have hltz : (j : Int) < (own : Int) + 1 := by omega
      have h1 := sumR_range R HR.out e j
      have h2 := HR.out (e - j)
      have h3 : 0 ≤ a ∧ a ≤ 20000000000 := by have := HA.out; omega
      have hx := HX.out (e - j) (by omega)
      have HN : Aside0 (a + R (e - j) = own + sumR R e (j + 1)) := ⟨by have := HA.out; rw [sumR]; omega⟩
      have hz0 : (0 : Int) ≤ (e : Int) - (j : Int) := by omega
      have hz1 : (e : Int) - (j : Int) < 11 := by omega
      have hz2 : ((e : Int) - (j : Int)).toNat = e - j := by omega
      have hw1 : IntKind.i64.wrap ((e : Int) - (j : Int)) = (e : Int) - (j : Int) := by rw [i64_w]; unfold wrap64; omega
      have hw2 : IntKind.i64.wrap (s : Int) = (s : Int) := by rw [i64_w]; unfold wrap64; omega
      generalize R (e - j) = x at hx h2 HN
      have hw3 : IntKind.i64.wrap (a + x) = a + x := by clear hw1 hw2; rw [i64_w]; unfold wrap64; omega
      clear h1 h2 h3
      go_wp2
      go_roundg (own + 1 - (j + 1))
      case measure => omega
      case rel => exact ⟨j + 1, a + x, by go_num, rfl, by omega, by omega, HN, rfl⟩
    · have hltz : ¬ (j : Int) < (own : Int) + 1 := by omega
      obtain rfl : j = own + 1 := by omega
      have HF : Aside0 (a = covR R e own) := ⟨HA.out⟩
      go_wp2
      go_ret
      exact ⟨by rw [← HF.out]; rfl, rfl⟩

end Go.Proofs.Ytbiibhfcclfoiaa.PrintA
