-- written by this session's own driver (wip/gen.py) with the kit's print and contracts of our own
import Derived.Test.YtiahedkmlacpkaaPrintA0
import Derived.Test.YtiahedkmlacpkaaPrintA30
import Derived.Test.YtiahedkmlacpkaaPrintA31
namespace Go.Proofs.Ytiahedkmlacpkaa.PrintA
open Go.RowKit Go.Proofs.YtiahedkmlacpkaaW.PrintWords Go.Proofs.YtiahedkmlacpkaaW.PrintLast Go.Proofs.YtiahedkmlacpkaaW.PrintMore
attribute [local go_sem] max2_int min2_int max_two min_two max_three min_three max_four min_four   -- for this text's walks alone
set_option linter.unusedVariables false
set_option linter.unusedSimpArgs false

/-! behind laws_heldDropS -/
theorem heldDropS_l0 (n : Nat) (k0 : Int) (hk0 : 0 ≤ k0) (hk1 : k0 ≤ 1000000000) (hl : n ≤ 1000000) : ∀ (d k : Nat) (i : Nat), i ≤ n → n - i = d → d < k →
    laws_heldDropS.l0 k (upD n k0) (k0 + 2 * (i : Int)) (i : Int) = some (k0 + 2 * (n : Int)) := by
  intro d
  induction d with
  | zero =>
    intro k i h1 hd hk
    obtain ⟨k, rfl⟩ : ∃ m, k = m + 1 := ⟨k - 1, by omega⟩
    obtain rfl : i = n := by omega
    simp only [laws_heldDropS.l0]
    rw [if_neg (by simp [upD_length])]
  | succ d ih =>
    intro k i h1 hd hk
    obtain ⟨k, rfl⟩ : ∃ m, k = m + 1 := ⟨k - 1, by omega⟩
    simp only [laws_heldDropS.l0]
    have hr : rd_T56 (upD n k0) (i : Int) = ⟨k0 + 2 * (i : Int), (Int.tmod (k0 + 2 * (i : Int) + 1) 3) == 0⟩ := by simp [rd_T56, upD, List.getD_eq_getElem?_getD, show i < n by omega]
    have e1 : wrap64 (k0 + 2 * (i : Int) + 1) = k0 + 2 * (i : Int) + 1 := by unfold wrap64; omega
    have e4 : wrap64 (k0 + 2 * (i : Int) + 1 + 1) = k0 + 2 * ((i + 1 : Nat) : Int) := by unfold wrap64; omega
    have e2 : wrap64 ((i : Int) + 1) = ((i + 1 : Nat) : Int) := by unfold wrap64; omega
    rw [if_pos (by simp [upD_length]; omega), if_pos (by omega), hr]
    simp only [e1, e4, e2, bne_self_eq_false]
    rw [if_pos trivial, if_neg (by simp)]
    exact ih k (i + 1) (by omega) (by omega) (by omega)
theorem heldDropS_own (ok : Nat → Prop) (A : Option Addr) (n c : Nat) (k0 : Int) (b : Nat) (w : World) (hR : Kd.R k56 56 w b ok (.slice A n c) (upD n k0)) (hl : n ≤ 1000000) (hk0 : 0 ≤ k0) (hk1 : k0 ≤ 1000000000) :
    Calls Try.prog 19 #[.slice A n c, .int .i64 k0] w fun e w' => e = .returned (.int .i64 (k0 + 2 * (n : Int))) ∧ Drawn0 w w' := by
  obtain ⟨_, h2, h3⟩ := Kd.R_reads' hR
  have h := laws_heldDropS.calls (n + 1) A c (upD n k0) k0 (k0 + 2 * (n : Int)) w h3 (by rw [upD_length]; exact h2) (by
    unfold laws_heldDropS.f
    have := heldDropS_l0 n k0 hk0 hk1 hl n (n + 1) 0 (by omega) (by omega) (by omega)
    simpa using this)
  rw [upD_length] at h
  exact h


end Go.Proofs.Ytiahedkmlacpkaa.PrintA
