-- written by this session's own driver (wip/gen.py) with the kit's print and contracts of our own
import Derived.Test.YtmclbiollhdbjaaPrintA0
import Derived.Test.YtmclbiollhdbjaaPrintA15
namespace Go.Proofs.Ytmclbiollhdbjaa.PrintA
open Go.RowKit Go.Proofs.YtmclbiollhdbjaaLib Go.Proofs.YtmclbiollhdbjaaW.PrintWords Go.Proofs.YtmclbiollhdbjaaW.PrintLast Go.Proofs.YtmclbiollhdbjaaW.PrintMore
attribute [local go_sem] max2_int min2_int max_two min_two max_three min_three max_four min_four   -- for this text's walks alone
set_option linter.unusedVariables false
set_option linter.unusedSimpArgs false

/-! behind impl_shifted -/
theorem impl_shifted_l0 (l : List Int) (d : Int) (hl : l.length ≤ 1000000) (hd : -1000000 ≤ d ∧ d ≤ 1000000) (hx : ∀ x ∈ l, -1000000 ≤ x ∧ x ≤ 1000000) : ∀ (m k : Nat) (i : Nat), i ≤ l.length → l.length - i = m → m < k →
    impl_shifted.l0 k d ((l.take i).map (fun x => x + d)) l (l.length : Int) (i : Int) = some (l.map (fun x => x + d)) := by
  intro m
  induction m with
  | zero =>
    intro k i h1 hd' hk
    obtain ⟨k, rfl⟩ : ∃ m, k = m + 1 := ⟨k - 1, by omega⟩
    obtain rfl : i = l.length := by omega
    simp only [impl_shifted.l0]
    rw [if_neg (by omega), List.take_length]
  | succ m ih =>
    intro k i h1 hd' hk
    obtain ⟨k, rfl⟩ : ∃ m, k = m + 1 := ⟨k - 1, by omega⟩
    have hlt : i < l.length := by omega
    simp only [impl_shifted.l0]
    have e2 : wrap64 ((i : Int) + 1) = ((i + 1 : Nat) : Int) := by unfold wrap64; omega
    have hr : rd l (i : Int) = l[i] := by simp [rd, List.getD_eq_getElem?_getD, hlt]
    have hb := hx l[i] (List.getElem_mem hlt)
    have e3 : wrap64 (l[i] + d) = l[i] + d := by unfold wrap64; omega
    rw [if_pos (by omega), if_pos (by omega), if_pos (by omega), if_pos (by rw [List.length_map, List.length_take]; omega), e2, hr, e3]
    have e4 : (l.take i).map (fun x => x + d) ++ [l[i] + d] = (l.take (i + 1)).map (fun x => x + d) := by
      rw [List.take_succ_eq_append_getElem hlt, List.map_append]; rfl
    rw [e4]
    exact ih k (i + 1) (by omega) (by omega) (by omega)
theorem impl_shifted_is (l : List Int) (d : Int) (k : Nat) (hl : l.length ≤ 1000000) (hd : -1000000 ≤ d ∧ d ≤ 1000000) (hx : ∀ x ∈ l, -1000000 ≤ x ∧ x ≤ 1000000) (hk : l.length < k) : impl_shifted.f k l d = some (l.map (fun x => x + d)) := by
  unfold impl_shifted.f
  have h := impl_shifted_l0 l d hl hd hx l.length k 0 (by omega) (by omega) hk
  simpa using h

end Go.Proofs.Ytmclbiollhdbjaa.PrintA
