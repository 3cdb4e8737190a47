-- written by this session's own driver (wip/gen.py) with the kit's print and contracts of our own
import Derived.Test.YtkbmefmnfoalhaaPrintC0
import Derived.Test.YtkbmefmnfoalhaaPrintC1
import Derived.Test.YtkbmefmnfoalhaaPrintC24
namespace Go.Proofs.Ytkbmefmnfoalhaa.PrintC
open Go.RowKit Go.Proofs.YtkbmefmnfoalhaaLib Go.Proofs.YtkbmefmnfoalhaaW.PrintWords Go.Proofs.YtkbmefmnfoalhaaW.PrintLast Go.Proofs.YtkbmefmnfoalhaaW.PrintMore
attribute [local go_sem] max2_int min2_int max_two min_two max_three min_three max_four min_four   -- for this text's walks alone
set_option linter.unusedVariables false
set_option linter.unusedSimpArgs false

/-! behind laws_markIntS -/
def upL (n : Nat) (k : Int) : List Int := (List.range n).map (fun (i : Nat) => k + (i : Int))
theorem upL_length (n : Nat) (k : Int) : (upL n k).length = n := by simp [upL]
theorem markIntS_l0 (l : List Int) (k0 : Int) (hk0 : 0 ≤ k0) (hk1 : k0 ≤ 1000000000) (hl : l.length ≤ 1000000) : ∀ (d k : Nat) (i : Nat), i ≤ l.length → l.length - i = d → d < k →
    laws_markIntS.l0 k (upL i k0 ++ l.drop i) (k0 + i) (i : Int) = some (k0 + l.length, upL l.length k0) := by
  intro d
  induction d with
  | zero =>
    intro k i h1 hd hk
    obtain ⟨k, rfl⟩ : ∃ m, k = m + 1 := ⟨k - 1, by omega⟩
    obtain rfl : i = l.length := by omega
    simp only [laws_markIntS.l0]
    rw [if_neg (by simp [upL_length])]
    simp
  | succ d ih =>
    intro k i h1 hd hk
    obtain ⟨k, rfl⟩ : ∃ m, k = m + 1 := ⟨k - 1, by omega⟩
    have hlt : i < l.length := by omega
    simp only [laws_markIntS.l0]
    rw [if_pos (by simp [upL_length]; omega), if_pos (by omega)]
    have e1 : wrap64 (k0 + i + 1) = k0 + ((i + 1 : Nat) : Int) := by unfold wrap64; omega
    have e2 : wrap64 ((i : Int) + 1) = ((i + 1 : Nat) : Int) := by unfold wrap64; omega
    have e3 : (upL i k0 ++ l.drop i).set ((i : Int)).toNat (k0 + i) = upL (i + 1) k0 ++ l.drop (i + 1) := by
      rw [Int.toNat_natCast, List.drop_eq_getElem_cons hlt, List.set_append_right _ _ (by rw [upL_length]; omega), upL_length, Nat.sub_self, List.set_cons_zero]
      simp [upL, List.range_succ]
    rw [e1, e2, e3]
    exact ih k (i + 1) (by omega) (by omega) (by omega)
theorem markIntS_own (ok : Nat → Prop) (A : Option Addr) (n c : Nat) (l : List Int) (k0 : Int) (w0 w : World) (hB : Below w0.heap.size w0 w) (hn : l.length = n) (hR : Kd.R (Kd.int .i64) 3 w w0.heap.size ok (.slice A n c) l) (hl : n ≤ 1000000) (hk0 : 0 ≤ k0) (hk1 : k0 ≤ 1000000000) :
    Calls Try.prog 21 #[.slice A n c, .int .i64 k0] w fun e w' => e = .returned (.int .i64 (k0 + n)) ∧ Kd.R (Kd.int .i64) 3 w' w0.heap.size ok (.slice A n c) (upL n k0) ∧ Below w0.heap.size w0 w' ∧ Kept w w' ok := by
  subst hn
  refine (laws_markIntS.calls (l.length + 1) ok (.slice A l.length c) l k0 (k0 + l.length) (upL l.length k0) w0 w hB hR ?_).mono ?_
  · unfold laws_markIntS.f
    have h := markIntS_l0 l k0 hk0 hk1 hl l.length (l.length + 1) 0 (by omega) (by omega) (by omega)
    simpa [upL] using h
  · rintro e w' ⟨rfl, hr, hb, hk⟩
    exact ⟨rfl, r_int_ok hr hR.1, hb, hk⟩

end Go.Proofs.Ytkbmefmnfoalhaa.PrintC
