/- The law FnExactCountBestMarks holds: for every input the program's CountBestMarks returns what the reference's returns, in every field, leaves its arguments as they were, and shares no memory. Conditions: none but those of the given statement. -/
import Derived.Test.YtalalaepdjmelaaPrintF1
import Derived.Test.YtalalaepdjmelaaPrintF4
import Derived.Test.YtalalaepdjmelaaPrintF6
import Derived.Test.YtalalaepdjmelaaPrintF9
import Derived.Test.YtalalaepdjmelaaPrintF10
import Derived.Test.YtalalaepdjmelaaPrintF11
import Derived.Test.YtalalaepdjmelaaPrintF12
namespace Go.Proofs.Ytalalaepdjmelaa.Pure
open Go.RowKit Go.Proofs.Ytalalaepdjmelaa.PrintF Go.Proofs.YtalalaepdjmelaaW.PrintWords Go.Proofs.YtalalaepdjmelaaW.PrintLast Go.Proofs.YtalalaepdjmelaaLib
set_option linter.unusedVariables false
set_option linter.unusedSimpArgs false

def LoopC (fl d : Nat) : Prop := ∀ (k : Nat) (l : List Int) (x5 : List (List Int)) (m : Nat), fl + 1 - m = d → m ≤ fl + 1 → 1 ≤ m → l.length < m → x5.length + 2 ^ d ≤ 1000000 → 3 * d < k →
  spec_stAll.l0 k fl l x5 m = some (x5 ++ rowsM d m l)
theorem stAll_f (fl : Nat) (hfl : fl ≤ 14) (d : Nat) (L : LoopC fl d) (k : Nat) (l : List Int) (last : Nat) (hd : fl - last = d) (hlast : last ≤ fl) (hl : l.length ≤ last) (h0 : l = [] → last = 0) (h1 : 0 < l.length → rd l ((l.length : Int) - 1) = last) (hk : 3 * d + 2 < k) :
    spec_stAll.f k fl l = some (l :: rowsM d ((last : Int) + 1) l) := by
  obtain ⟨k, rfl⟩ : ∃ m, k = m + 1 := ⟨k - 1, by omega⟩
  obtain ⟨k, rfl⟩ : ∃ m, k = m + 1 := ⟨k - 1, by omega⟩
  have hp : (2 : Nat) ^ d ≤ 2 ^ 14 := Nat.pow_le_pow_right (by omega) (by omega)
  have hp2 : (2 : Nat) ^ 14 = 16384 := by decide
  have e1 : wrap64 ((last : Int) + 1) = ((last + 1 : Nat) : Int) := by unfold wrap64; omega
  have hL := L k l [l] (last + 1) (by omega) (by omega) (by omega) (by omega) (by simp; omega) (by omega)
  rw [show ((last + 1 : Nat) : Int) = (last : Int) + 1 by omega] at hL e1
  rw [spec_stAll.f, spec_l1Own_is l (by omega), Option.bind_some, Option.bind_some]
  by_cases hz : 0 < l.length
  · have e2 : wrap64 ((l.length : Int) - 1) = (l.length : Int) - 1 := by unfold wrap64; omega
    rw [if_pos (by omega), e2, if_pos (by omega), if_pos (by omega), h1 hz, spec_stAll.j0, e1, hL]
    rfl
  · have hl0 : l = [] := List.length_eq_zero_iff.1 (by omega)
    have hla := h0 hl0
    rw [if_neg (by omega), spec_stAll.j0]
    subst hla
    rw [show wrap64 (0 + 1) = ((0 : Nat) : Int) + 1 from e1, hL]
    rfl
theorem stAll_loop (fl : Nat) (hfl : fl ≤ 14) : ∀ d, LoopC fl d
  | 0 => by
    intro k l x5 m hd hm h1 hl hx hk
    obtain ⟨k, rfl⟩ : ∃ m, k = m + 1 := ⟨k - 1, by omega⟩
    rw [spec_stAll.l0, if_neg (by omega)]
    simp [rowsM]
  | d + 1 => by
    intro k l x5 m hd hm h1 hl hx hk
    obtain ⟨k, rfl⟩ : ∃ m, k = m + 1 := ⟨k - 1, by omega⟩
    have hp : (2 : Nat) ^ d ≤ 2 ^ 14 := Nat.pow_le_pow_right (by omega) (by omega)
    have hp2 : (2 : Nat) ^ 14 = 16384 := by decide
    rw [Nat.pow_succ] at hx
    have hF := stAll_f fl hfl d (stAll_loop fl hfl d) k (l ++ [(m : Int)]) m (by omega) (by omega) (by simp; omega) (fun h => by simp at h) (fun _ => by simp [rd, List.getD_eq_getElem?_getD]) (by omega)
    have hlen := rowsM_len d ((m : Int) + 1) (l ++ [(m : Int)])
    have hL := stAll_loop fl hfl d k l (x5 ++ ((l ++ [(m : Int)]) :: rowsM d ((m : Int) + 1) (l ++ [(m : Int)]))) (m + 1) (by omega) (by omega) (by omega) (by omega) (by rw [List.length_append, List.length_cons]; omega) (by omega)
    have e1 : wrap64 ((m : Int) + 1) = ((m + 1 : Nat) : Int) := by unfold wrap64; omega
    rw [spec_stAll.l0, if_pos (by clear e1; omega), spec_l1Own_is l (by clear e1; omega), Option.bind_some, if_pos (by clear e1; omega), hF, Option.bind_some, if_pos (by rw [List.length_cons]; clear e1; omega), e1, hL, rowsM_step, List.append_assoc]
    rw [show ((m + 1 : Nat) : Int) = (m : Int) + 1 by clear e1; omega]
theorem count_l0 (fl : Nat) (hfl : fl ≤ 14) (rows : List (List Int)) (hr : ∀ r ∈ rows, risL 1 fl 0 r = true) (hlen : rows.length ≤ 100000) : ∀ (d k i : Nat) (n : Int), rows.length - i = d → i ≤ rows.length → 0 ≤ n → n ≤ i → 30000 + d < k →
    spec_CountBestMarks.l0 k fl n rows (rows.length : Int) i = some (n + sumP (pB fl (few 2 fl : Nat)) (rows.drop i), true)
  | 0, k, i, n, hd, hi, hn0, hn, hk => by
    obtain ⟨k, rfl⟩ : ∃ m, k = m + 1 := ⟨k - 1, by omega⟩
    obtain rfl : i = rows.length := by omega
    rw [spec_CountBestMarks.l0, if_neg (by omega)]
    simp [sumP]
  | d + 1, k, i, n, hd, hi, hn0, hn, hk => by
    obtain ⟨k, rfl⟩ : ∃ m, k = m + 1 := ⟨k - 1, by omega⟩
    have hlt : i < rows.length := by omega
    have e2 : wrap64 ((i : Int) + 1) = ((i + 1 : Nat) : Int) := by unfold wrap64; omega
    have e3 : wrap64 (n + 1) = n + 1 := by unfold wrap64; omega
    have hrd : rd_L3 rows (i : Int) = rows[i] := by simp [rd_L3, List.getD_eq_getElem?_getD, hlt]
    have hw := stWorst_is fl rows[i] (by omega) (hr _ (List.getElem_mem hlt)) k (by omega)
    have hf := spec_flFew_is 2 (fl : Int) (by omega) (by omega) (by omega) k (by omega)
    rw [spec_CountBestMarks.l0, if_pos (by clear e2 e3; omega), if_pos (by clear e2 e3; omega), if_pos (by clear e2 e3; omega), hrd, hw, Option.bind_some, show (2 : Int) = ((2 : Nat) : Int) from rfl, hf, Option.bind_some, e2, e3, List.drop_eq_getElem_cons hlt, sumP]
    have hpb : pB fl (few 2 fl : Nat) rows[i] = if mxF (dropN (fl : Int) rows[i]) (fl + 1) = ((few 2 (fl : Int) : Nat) : Int) then 1 else 0 := by unfold pB; rw [Int.toNat_natCast]
    by_cases hc : mxF (dropN (fl : Int) rows[i]) (fl + 1) = ((few 2 (fl : Int) : Nat) : Int)
    · rw [if_pos hc] at hpb ⊢
      rw [count_l0 fl hfl rows hr hlen d k (i + 1) (n + 1) (by clear e2 e3; omega) (by clear e2 e3; omega) (by clear e2 e3; omega) (by clear e2 e3; omega) (by clear e2 e3; omega), hpb]
      congr 2
      omega
    · rw [if_neg hc] at hpb ⊢
      rw [count_l0 fl hfl rows hr hlen d k (i + 1) n (by clear e2 e3; omega) (by clear e2 e3; omega) (by clear e2 e3; omega) (by clear e2 e3; omega) (by clear e2 e3; omega), hpb]
      congr 2
      omega
theorem FnExactCountBestMarks : laws_FnExactCountBestMarks.Pure := by
  intro a _
  by_cases hp : 0 ≤ a ∧ a ≤ 14
  · have hpd : (decide (0 ≤ a) && decide (a ≤ 14)) = true := by simp [hp]
    obtain ⟨fl, rfl⟩ : ∃ m : Nat, a = m := ⟨a.toNat, by omega⟩
    have hfl : fl ≤ 14 := by omega
    have hf := stAll_f fl hfl fl (stAll_loop fl hfl fl) 200000 [] 0 (by omega) (by omega) (by simp) (fun _ => rfl) (fun h => absurd h (by simp)) (by omega)
    have hlen := rowsM_len fl 1 []
    have hpw : (2 : Nat) ^ fl ≤ 2 ^ 14 := Nat.pow_le_pow_right (by omega) (by omega)
    have hp2 : (2 : Nat) ^ 14 = 16384 := by decide
    have hris : ∀ r ∈ ([] : List Int) :: rowsM fl 1 [], risL 1 fl 0 r = true := by
      intro r hr
      rcases List.mem_cons.1 hr with rfl | hr
      · rfl
      · exact rowsM_ris fl fl 1 [] rfl (by simp) (by omega) (by omega) r hr
    have hc := count_l0 fl hfl (([] : List Int) :: rowsM fl 1 []) hris (by rw [List.length_cons]; omega) ((([] : List Int) :: rowsM fl 1 []).length) 200000 0 0 (by omega) (by omega) (by omega) (by omega) (by rw [List.length_cons]; omega)
    rw [show ((0 : Nat) : Int) + 1 = 1 from rfl] at hf
    refine ⟨200000, pB fl (few 2 fl : Nat) [] + cntM (pB fl (few 2 fl : Nat)) fl 1 [], true, ?_, ?_⟩
    · unfold spec_CountBestMarks.f
      rw [spec_l1In_is, hpd, Option.bind_some, if_pos rfl, hf, Option.bind_some]
      refine Eq.trans hc ?_
      rw [List.drop_zero, sumP, sumP_rows, Int.zero_add]
    · unfold impl_CountBestMarks.f
      rw [impl_isListed_is, hpd, Option.bind_some, if_pos rfl, Int.toNat_natCast]
  · have hpd : (decide (0 ≤ a) && decide (a ≤ 14)) = false := by simp only [Bool.and_eq_false_iff, decide_eq_false_iff_not]; omega
    refine ⟨0, 0, false, ?_, ?_⟩
    · unfold spec_CountBestMarks.f
      rw [spec_l1In_is, hpd]; rfl
    · unfold impl_CountBestMarks.f
      rw [impl_isListed_is, hpd]; rfl

end Go.Proofs.Ytalalaepdjmelaa.Pure
