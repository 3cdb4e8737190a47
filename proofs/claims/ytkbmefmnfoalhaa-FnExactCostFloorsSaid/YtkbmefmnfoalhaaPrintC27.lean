-- written by this session's own driver (wip/gen.py) with the kit's print and contracts of our own
import Derived.Test.YtkbmefmnfoalhaaPrintC0
import Derived.Test.YtkbmefmnfoalhaaPrintC25
import Derived.Test.YtkbmefmnfoalhaaPrintC26
namespace Go.Proofs.Ytkbmefmnfoalhaa.PrintC
open Go.RowKit Go.Proofs.YtkbmefmnfoalhaaLib Go.Proofs.YtkbmefmnfoalhaaW.PrintWords Go.Proofs.YtkbmefmnfoalhaaW.PrintLast Go.Proofs.YtkbmefmnfoalhaaW.PrintMore
attribute [local go_sem] max2_int min2_int max_two min_two max_three min_three max_four min_four   -- for this text's walks alone
set_option linter.unusedVariables false
set_option linter.unusedSimpArgs false

/-! behind laws_heldIntS -/
theorem heldIntS_l0 (n : Nat) (k0 : Int) (hk0 : 0 ≤ k0) (hk1 : k0 ≤ 1000000000) (hl : n ≤ 1000000) : ∀ (d k : Nat) (i : Nat), i ≤ n → n - i = d → d < k →
    laws_heldIntS.l0 k (upL n k0) (k0 + i) (i : Int) = some (k0 + n) := by
  intro d
  induction d with
  | zero =>
    intro k i h1 hd hk
    obtain ⟨k, rfl⟩ : ∃ m, k = m + 1 := ⟨k - 1, by omega⟩
    obtain rfl : i = n := by omega
    simp only [laws_heldIntS.l0]
    rw [if_neg (by simp [upL_length])]
  | succ d ih =>
    intro k i h1 hd hk
    obtain ⟨k, rfl⟩ : ∃ m, k = m + 1 := ⟨k - 1, by omega⟩
    simp only [laws_heldIntS.l0]
    have hr : rd (upL n k0) (i : Int) = k0 + i := by simp [rd, upL, List.getD_eq_getElem?_getD, show i < n by omega]
    rw [if_pos (by simp [upL_length]; omega), if_pos (by omega), if_pos hr]
    have e1 : wrap64 (k0 + i + 1) = k0 + ((i + 1 : Nat) : Int) := by unfold wrap64; omega
    have e2 : wrap64 ((i : Int) + 1) = ((i + 1 : Nat) : Int) := by unfold wrap64; omega
    rw [e1, e2]
    exact ih k (i + 1) (by omega) (by omega) (by omega)
theorem heldIntS_own (ok : Nat → Prop) (A : Option Addr) (n c : Nat) (k0 : Int) (b : Nat) (w : World) (hR : Kd.R (Kd.int .i64) 3 w b ok (.slice A n c) (upL n k0)) (hl : n ≤ 1000000) (hk0 : 0 ≤ k0) (hk1 : k0 ≤ 1000000000) :
    Calls Try.prog 22 #[.slice A n c, .int .i64 k0] w fun e w' => e = .returned (.int .i64 (k0 + n)) ∧ Drawn0 w w' := by
  obtain ⟨_, h2, h3⟩ := Kd.R_reads' hR
  have h := laws_heldIntS.calls (n + 1) A c (upL n k0) k0 (k0 + n) w h3 (by rw [upL_length]; exact h2) (by
    unfold laws_heldIntS.f
    have := heldIntS_l0 n k0 hk0 hk1 hl n (n + 1) 0 (by omega) (by omega) (by omega)
    simpa using this)
  rw [upL_length] at h
  exact h


end Go.Proofs.Ytkbmefmnfoalhaa.PrintC
