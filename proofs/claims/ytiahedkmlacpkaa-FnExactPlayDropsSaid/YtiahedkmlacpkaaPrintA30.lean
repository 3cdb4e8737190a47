-- written by this session's own driver (wip/gen.py) with the kit's print and contracts of our own
import Derived.Test.YtiahedkmlacpkaaPrintA0
import Derived.Test.YtiahedkmlacpkaaPrintA29
namespace Go.Proofs.Ytiahedkmlacpkaa.PrintA
open Go.RowKit Go.Proofs.YtiahedkmlacpkaaW.PrintWords Go.Proofs.YtiahedkmlacpkaaW.PrintLast Go.Proofs.YtiahedkmlacpkaaW.PrintMore
attribute [local go_sem] max2_int min2_int max_two min_two max_three min_three max_four min_four   -- for this text's walks alone
set_option linter.unusedVariables false
set_option linter.unusedSimpArgs false

/-! behind laws_markDropS -/
def upD (n : Nat) (k : Int) : List S56 := (List.range n).map (fun (i : Nat) => ⟨k + 2 * (i : Int), (Int.tmod (k + 2 * (i : Int) + 1) 3) == 0⟩)
theorem upD_length (n : Nat) (k : Int) : (upD n k).length = n := by simp [upD]
theorem markDropS_l0 (l : List S56) (k0 : Int) (hk0 : 0 ≤ k0) (hk1 : k0 ≤ 1000000000) (hl : l.length ≤ 1000000) : ∀ (d k : Nat) (i : Nat), i ≤ l.length → l.length - i = d → d < k →
    laws_markDropS.l0 k (upD i k0 ++ l.drop i) (k0 + 2 * (i : Int)) (i : Int) = some (k0 + 2 * (l.length : Int), upD l.length k0) := by
  intro d
  induction d with
  | zero =>
    intro k i h1 hd hk
    obtain ⟨k, rfl⟩ : ∃ m, k = m + 1 := ⟨k - 1, by omega⟩
    obtain rfl : i = l.length := by omega
    simp only [laws_markDropS.l0]
    rw [if_neg (by simp [upD_length])]
    simp
  | succ d ih =>
    intro k i h1 hd hk
    obtain ⟨k, rfl⟩ : ∃ m, k = m + 1 := ⟨k - 1, by omega⟩
    have hlt : i < l.length := by omega
    simp only [laws_markDropS.l0]
    rw [if_pos (by simp [upD_length]; omega), if_pos (by omega), Option.bind_some]
    have e1 : wrap64 (k0 + 2 * (i : Int) + 1) = k0 + 2 * (i : Int) + 1 := by unfold wrap64; omega
    have e4 : wrap64 (k0 + 2 * (i : Int) + 1 + 1) = k0 + 2 * ((i + 1 : Nat) : Int) := by unfold wrap64; omega
    have e2 : wrap64 ((i : Int) + 1) = ((i + 1 : Nat) : Int) := by unfold wrap64; omega
    have hs : ∀ y : S56, (upD i k0 ++ l.drop i).set i y = upD i k0 ++ y :: l.drop (i + 1) := fun y => by
      rw [List.drop_eq_getElem_cons hlt, List.set_append_right _ _ (by rw [upD_length]; omega), upD_length, Nat.sub_self, List.set_cons_zero]
    have hr : ∀ y : S56, (rd_T56 (upD i k0 ++ y :: l.drop (i + 1)) (i : Int)) = y := fun y => by
      simp [rd_T56, List.getD_eq_getElem?_getD, List.getElem?_append_right, upD_length]
    have hs2 : ∀ y z : S56, (upD i k0 ++ y :: l.drop (i + 1)).set i z = upD i k0 ++ z :: l.drop (i + 1) := fun y z => by
      rw [List.set_append_right _ _ (by rw [upD_length]; omega), upD_length, Nat.sub_self, List.set_cons_zero]
    rw [e1, e2, Int.toNat_natCast, hs, hr, hs2, e4]
    have e5 : ∀ z : S56, z = ⟨k0 + 2 * (i : Int), (Int.tmod (k0 + 2 * (i : Int) + 1) 3) == 0⟩ → upD i k0 ++ z :: l.drop (i + 1) = upD (i + 1) k0 ++ l.drop (i + 1) := fun z hz => by
      rw [hz]; simp [upD, List.range_succ]
    rw [e5 _ rfl]
    exact ih k (i + 1) (by omega) (by omega) (by omega)
theorem markDropS_own (ok : Nat → Prop) (A : Option Addr) (n c : Nat) (l : List S56) (k0 : Int) (w0 w : World) (hB : Below w0.heap.size w0 w) (hn : l.length = n) (hR : Kd.R k56 56 w w0.heap.size ok (.slice A n c) l) (hl : n ≤ 1000000) (hk0 : 0 ≤ k0) (hk1 : k0 ≤ 1000000000) :
    Calls Try.prog 18 #[.slice A n c, .int .i64 k0] w fun e w' => e = .returned (.int .i64 (k0 + 2 * (n : Int))) ∧ Kd.R k56 56 w' w0.heap.size (fun _ => True) (.slice A n c) (upD n k0) ∧ Below w0.heap.size w0 w' ∧ Kept w w' ok := by
  subst hn
  refine (laws_markDropS.calls (l.length + 1) ok (.slice A l.length c) l k0 (k0 + 2 * (l.length : Int)) (upD l.length k0) w0 w hB hR ?_).mono ?_
  · unfold laws_markDropS.f
    have h := markDropS_l0 l k0 hk0 hk1 hl l.length (l.length + 1) 0 (by omega) (by omega) (by omega)
    simpa [upD] using h
  · rintro e w' ⟨rfl, hr, hb, hk⟩
    exact ⟨rfl, Kd.R_mono hr (fun _ _ => trivial), hb, hk⟩

end Go.Proofs.Ytiahedkmlacpkaa.PrintA
