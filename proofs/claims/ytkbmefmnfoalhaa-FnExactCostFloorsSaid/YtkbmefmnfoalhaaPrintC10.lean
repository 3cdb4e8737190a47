-- written by this session's own driver (wip/gen.py) with the kit's print and contracts of our own
import Derived.Test.YtkbmefmnfoalhaaPrintC0
import Derived.Test.YtkbmefmnfoalhaaPrintC7
import Derived.Test.YtkbmefmnfoalhaaPrintC9
namespace Go.Proofs.Ytkbmefmnfoalhaa.PrintC
open Go.RowKit Go.Proofs.YtkbmefmnfoalhaaLib Go.Proofs.YtkbmefmnfoalhaaW.PrintWords Go.Proofs.YtkbmefmnfoalhaaW.PrintLast Go.Proofs.YtkbmefmnfoalhaaW.PrintMore
attribute [local go_sem] max2_int min2_int max_two min_two max_three min_three max_four min_four   -- for this text's walks alone
set_option linter.unusedVariables false
set_option linter.unusedSimpArgs false

/-! ### spec_csTable_least: function 39, a contract of our own -/
theorem bestL_step (E T C : Int) (e n s f : Nat) (hf : 1 ≤ f) : bestL E T C e n s f = if 2 ≤ e ∨ f = 1 then (if bestL E T C e n s (f - 1) < 0 ∨ firstG E T C e n s f < bestL E T C e n s (f - 1) then firstG E T C e n s f else bestL E T C e n s (f - 1)) else bestL E T C e n s (f - 1) := by
  obtain ⟨q, rfl⟩ : ∃ q, f = q + 1 := ⟨f - 1, by omega⟩
  rw [bestL, Nat.add_sub_cancel]
  by_cases h : 2 ≤ e ∨ q = 0
  · rw [if_pos h, if_pos (show 2 ≤ e ∨ q + 1 = 1 by omega)]
  · rw [if_neg h, if_neg (show ¬ (2 ≤ e ∨ q + 1 = 1) by omega)]
/-- What a table knows for e eggs and n floors. -/
structure Knows (E T C : Int) (low high : Nat → Nat → Int) (e n : Nat) : Prop where
  h : ∀ f, 1 ≤ f → f ≤ n → (2 ≤ e ∨ f = 1) → high (e - 1) (f - 1) = cst E T C (e - 1) (f - 1) 1
  l : ∀ f, 1 ≤ f → f ≤ n → low e (n - f) = cst E T C e (n - f) 0
theorem cst_le {E T C : Int} (p : Prs E T C) (e n s : Nat) (hn : n ≤ 60) (h : 1 ≤ e ∨ n = 0) : 0 ≤ cst E T C e n s ∧ cst E T C e n s ≤ 1125899907000000 := by
  have h1 := cst_range p n hn e s
  refine ⟨h1.1, ?_⟩
  rcases h with h | h
  · have := h1.2 h; omega
  · subst h; rw [cst_zero]; omega
theorem by_first {g gl cl gh ch ne nf : Nat} {rl pl rh ph : Nat → Nat} {E T C : Int} {low high : Nat → Nat → Int} (e n s f : Nat) (w : World) (hI : RD w g gl cl gh ch ne nf rl pl rh ph E T C low high) (he : 1 ≤ e) (hne : e ≤ ne) (hne2 : ne ≤ 10) (hn : n ≤ nf) (hnf : nf ≤ 60) (hs : s ≤ 1) (hf : 1 ≤ f) (hfn : f ≤ n) (hp : Prs E T C) (hK : Knows E T C low high e n) (hcan : 2 ≤ e ∨ f = 1) :
    Calls Try.prog 44 #[.pointer (some ⟨g, 0, none⟩), .int .i64 e, .int .i64 n, .int .i64 (if s = 1 then n + 1 else 0 : Nat), .int .i64 f] w fun e' w' => e' = .returned (.int .i64 (firstG E T C e n s f)) ∧ ∃ m, w' = w.drewN m := by
  have h1 := hK.h f hf hfn hcan
  have h2 := hK.l f hf hfn
  have hw := way_range n s f hf hfn
  have hway : ((if s = 1 then n + 1 else 0 : Nat) : Int) - f = wayI n s f ∨ ((if s = 1 then n + 1 else 0 : Nat) : Int) - f = -wayI n s f := by
    unfold wayI
    by_cases h : s = 1
    · rw [if_pos h, if_pos h]; left; omega
    · rw [if_neg h, if_neg h]; right; omega
  have hfr : (if s = 1 then n + 1 else 0 : Nat) ≤ 61 := by split <;> omega
  have := by_calls g gl cl gh ch ne nf rl pl rh ph E T C low high e n (if s = 1 then n + 1 else 0) f (wayI n s f) w hI he hne hne2 hn hnf hf hfn hfr (by omega) (by omega) hway hp (by rw [h1]; exact cst_le hp _ _ _ (by omega) (by omega)) (by rw [h2]; exact cst_le hp _ _ _ (by omega) (by omega))
  rw [h1, h2] at this
  exact this
theorem csCan_is (e f : Nat) (hf : 1 ≤ f) : spec_csCan.f (e : Int) ((f : Int) - 1) = some (decide (2 ≤ e ∨ f = 1)) := by
  unfold spec_csCan.f
  by_cases h : 2 ≤ e
  · rw [if_pos (by omega), decide_eq_true (Or.inl h)]
  · rw [if_neg (by omega)]
    by_cases h1 : f = 1
    · subst h1; simp
    · rw [decide_eq_false (by omega)]
      first
        | rw [decide_eq_false (by omega)]
        | (have : ¬ ((f : Int) - 1 = 0) := by omega
           simp [this])
set_option maxHeartbeats 8000000 in
set_option maxRecDepth 100000 in
theorem least_calls {g gl cl gh ch ne nf : Nat} {rl pl rh ph : Nat → Nat} {E T C : Int} {low high : Nat → Nat → Int} (e n s : Nat) (w : World) (hI : RD w g gl cl gh ch ne nf rl pl rh ph E T C low high) (he : 1 ≤ e) (hne : e ≤ ne) (hne2 : ne ≤ 10) (hn : n ≤ nf) (hnf : nf ≤ 60) (hs : s ≤ 1) (hp : Prs E T C) (hK : Knows E T C low high e n) :
    Calls Try.prog 39 #[.pointer (some ⟨g, 0, none⟩), .int .i64 e, .int .i64 n, .int .i64 (if s = 1 then n + 1 else 0 : Nat)] w fun e' w' => e' = .returned (.int .i64 (bestL E T C e n s n)) ∧ ∃ m, w' = w.drewN m := by
  have HBY := Aside0.mk (fun (f q : Nat) (hf : 1 ≤ f) (hfn : f ≤ n) (hcan : 2 ≤ e ∨ f = 1) => by_first e n s f (w.drewN q) (hI.below (pw_below_drewN (Below.refl w.heap.size w) q)) he hne hne2 hn hnf hs hf hfn hp hK hcan)
  have HCAN := Aside0.mk (fun (f : Nat) (W : World) (hf : 1 ≤ f) => spec_csCan.calls0 (e : Int) ((f : Int) - 1) _ W (csCan_is e f hf))
  generalize hfr : ((if s = 1 then n + 1 else 0 : Nat) : Int) = fr at HBY ⊢
  have HD : Aside0 (∃ q, w = w.drewN q) := ⟨0, by first | rfl | simp [World.drewN]⟩
  have hnz : (n : Int) ≤ 60 := by omega
  clear hI hp hK hfr
  go_enter Try.func39, Try.ntmps39
  go_wp2
  go_loopg [9, 10] (n + 1) (fun gg v9 v10 wr => ∃ f : Nat, 1 ≤ f ∧ f ≤ n + 1 ∧ n + 1 - f ≤ gg ∧ v10 = .int .i64 f ∧ v9 = .int .i64 (bestL E T C e n s (f - 1)) ∧ Aside0 (∃ q, wr = w.drewN q))
  case atStart => exact ⟨1, by omega, by omega, by omega, rfl, rfl, HD⟩
  case round =>
    clear HD
    obtain ⟨f, hf1, hf2, hgg, rfl, rfl, HD⟩ := hrel
    obtain ⟨q, rfl⟩ := HD.out
    clear HD
    by_cases hfn : f ≤ n
    · have hltz : (f : Int) ≤ (n : Int) := by omega
      have hst := bestL_step E T C e n s f hf1
      have hcn := HCAN.out f (w.drewN q) hf1
      by_cases hcan : 2 ≤ e ∨ f = 1
      · rw [if_pos hcan] at hst
        rw [decide_eq_true hcan] at hcn
        have HC := Aside0.mk hcn
        have HB := Aside0.mk (HBY.out f q hf1 hfn hcan)
        clear hcn hcan
        generalize bestL E T C e n s (f - 1) = b0 at hst ⊢
        generalize firstG E T C e n s f = x at hst HB
        by_cases hb : b0 < 0
        · have hbd : decide (b0 < 0) = true := decide_eq_true hb
          rw [if_pos (Or.inl hb)] at hst
          have HST := Aside0.mk hst
          clear hst
          go_wp2_with (first
            | (go_at_call 43; refine (HC.out).mono ?_; rintro e' w' ⟨rfl, rfl⟩)
            | (go_at_call 44; refine (HB.out).mono ?_; rintro e' w' ⟨rfl, nd, rfl⟩))
          go_roundg (n + 1 - (f + 1))
          case measure => omega
          case rel => exact ⟨f + 1, by omega, by omega, by omega, by go_num, by rw [Nat.add_sub_cancel, HST.out], ⟨_, by first | rfl | rw [World.drewN_drewN]⟩⟩
        · have hbd : decide (b0 < 0) = false := decide_eq_false hb
          by_cases hx : x < b0
          · have hxd : decide (x < b0) = true := decide_eq_true hx
            rw [if_pos (Or.inr hx)] at hst
            have HST := Aside0.mk hst
            clear hst
            go_wp2_with (first
              | (go_at_call 43; refine (HC.out).mono ?_; rintro e' w' ⟨rfl, rfl⟩)
              | (go_at_call 44; refine (HB.out).mono ?_; rintro e' w' ⟨rfl, nd, rfl⟩))
            go_roundg (n + 1 - (f + 1))
            case measure => omega
            case rel => exact ⟨f + 1, by omega, by omega, by omega, by go_num, by rw [Nat.add_sub_cancel, HST.out], ⟨_, by first | rfl | rw [World.drewN_drewN]⟩⟩
          · have hxd : decide (x < b0) = false := decide_eq_false hx
            rw [if_neg (by omega)] at hst
            have HST := Aside0.mk hst
            clear hst
            go_wp2_with (first
              | (go_at_call 43; refine (HC.out).mono ?_; rintro e' w' ⟨rfl, rfl⟩)
              | (go_at_call 44; refine (HB.out).mono ?_; rintro e' w' ⟨rfl, nd, rfl⟩))
            go_roundg (n + 1 - (f + 1))
            case measure => omega
            case rel => exact ⟨f + 1, by omega, by omega, by omega, by go_num, by rw [Nat.add_sub_cancel, HST.out], ⟨_, by first | rfl | rw [World.drewN_drewN]⟩⟩
      · rw [if_neg hcan] at hst
        rw [decide_eq_false hcan] at hcn
        have HC := Aside0.mk hcn
        have HST := Aside0.mk hst
        clear hcn hst hcan
        generalize bestL E T C e n s (f - 1) = b0 at HST ⊢
        go_wp2_with (go_at_call 43; refine (HC.out).mono ?_; rintro e' w' ⟨rfl, rfl⟩)
        go_roundg (n + 1 - (f + 1))
        case measure => omega
        case rel => exact ⟨f + 1, by omega, by omega, by omega, by go_num, by rw [Nat.add_sub_cancel, HST.out], ⟨_, rfl⟩⟩
    · have hltz : ¬ (f : Int) ≤ (n : Int) := by omega
      obtain rfl : f = n + 1 := by omega
      rw [Nat.add_sub_cancel]
      go_wp2
      go_ret
      exact ⟨rfl, _, rfl⟩


end Go.Proofs.Ytkbmefmnfoalhaa.PrintC
