/- The law FnExactTreeDrops holds: for every input the program's TreeDrops returns what the reference's returns, in every field, leaves its arguments as they were, and shares no memory. Conditions: none but those of the given statement. -/
import Derived.Test.YtmclbiollhdbjaaPrintZ4
import Derived.Test.YtmclbiollhdbjaaPrintZ6
import Derived.Test.YtmclbiollhdbjaaPrintZ8
import Derived.Test.YtmclbiollhdbjaaPrintZ12
import Derived.Test.YtmclbiollhdbjaaPrintZ13
import Derived.Test.YtmclbiollhdbjaaPrintZ14
import Derived.Test.YtmclbiollhdbjaaPrintZ17
namespace Go.Proofs.Ytmclbiollhdbjaa.Pure
open Go.RowKit Go.Proofs.Ytmclbiollhdbjaa.PrintZ Go.Proofs.YtmclbiollhdbjaaW.PrintWords Go.Proofs.YtmclbiollhdbjaaW.PrintLast Go.Proofs.YtmclbiollhdbjaaLib
set_option linter.unusedVariables false
set_option linter.unusedSimpArgs false

theorem spec_TreeDrops_l0 : ∀ (t : Tr) (k : Nat) (x low : Int) (acc : List S56), 0 ≤ low → low + t.size ≤ 1000 → t.size < k → acc.length + t.size ≤ 1000 →
    spec_TreeDrops.l0 k (t.toL (low + 1)) x acc (low + 1) = some (dropsT t low x acc, true)
  | .nil, k, x, low, acc, _, _, hk, _ => by
    obtain ⟨k, rfl⟩ : ∃ m, k = m + 1 := ⟨k - 1, by omega⟩
    rw [spec_TreeDrops.l0, if_neg (by simp [Tr.toL])]; rfl
  | .node b a, k, x, low, acc, h0, h1, hk, ha => by
    obtain ⟨k, rfl⟩ : ∃ m, k = m + 1 := ⟨k - 1, by omega⟩
    have hln := Tr.toL_length (Tr.node b a) (low + 1)
    have hsz : (Tr.node b a).size = b.size + a.size + 1 := rfl
    have hr : rd ((Tr.node b a).toL (low + 1)) 0 = low + ((b.size : Int) + 1) := by simp only [Tr.toL, rd_cons0]; omega
    have e1 : wrap64 (1 + (b.size : Int)) = ((b.size + 1 : Nat) : Int) := by unfold wrap64; omega
    have e2 : wrap64 (low + ((b.size : Int) + 1) + 1) = low + ((b.size : Int) + 1) + 1 := by unfold wrap64; omega
    rw [spec_TreeDrops.l0, if_pos (by omega), if_pos (by omega), toL_split b a _ (by omega) (by omega) (by omega), Option.bind_some, if_pos (by omega), Option.bind_some, hr, e1, e2]
    simp only [dropsT]
    by_cases h : low + ((b.size : Int) + 1) > x
    · rw [if_pos h, if_pos h, if_pos (by omega), if_pos (by omega), Int.toNat_natCast, toL_take, decide_eq_true h]
      exact spec_TreeDrops_l0 b k x low _ h0 (by omega) (by omega) (by simp; omega)
    · rw [if_neg h, if_neg h, if_pos (by omega), if_pos (by omega), Int.toNat_natCast, toL_drop, decide_eq_false h, show low + 1 + (b.size : Int) + 1 = low + ((b.size : Int) + 1) + 1 by omega]
      exact spec_TreeDrops_l0 a k x _ _ (by omega) (by omega) (by omega) (by simp; omega)
theorem FnExactTreeDrops : laws_FnExactTreeDrops.Pure := by
  intro l x hw _ hl
  have h1 := spec_trIs_is l 200 (by omega)
  have h2 := impl_IsTree_is l 200 (by omega)
  unfold spec_TreeDrops.f impl_TreeDrops.f
  by_cases g : (decide (l.length ≤ 30) && trOk 30 1 l) = true
  · rw [g] at h1 h2
    obtain ⟨t, rfl, ht⟩ := isTree_tr l g
    rw [Tr.toL_length]
    by_cases hx : (decide (0 ≤ x) && decide (x ≤ (t.size : Int))) = true
    · have hlen := dropsT_len t 0 x []
      have hle := t.lenT_le x
      rw [Int.sub_zero, List.length_nil, Nat.zero_add] at hlen
      refine ⟨200, 200, dropsT t 0 x [], true, ?_, ?_, by omega⟩
      · rw [h1, Option.bind_some, if_pos rfl, spec_l1In_is, hx, Option.bind_some, spec_TreeDrops.j0, if_neg (by simp)]
        exact spec_TreeDrops_l0 t 199 x 0 [] (by omega) (by omega) (by omega) (by simp; omega)
      · rw [h2, Option.bind_some, if_pos rfl, impl_isBreak_is, hx, Option.bind_some, if_pos rfl, impl_treeDrops_is t 200 x (by omega) (by omega), Option.bind_some]
    · refine ⟨200, 200, [], false, ?_, ?_, by simp⟩
      · rw [h1, Option.bind_some, if_pos rfl, spec_l1In_is, Bool.eq_false_iff.mpr hx]; rfl
      · rw [h2, Option.bind_some, if_pos rfl, impl_isBreak_is, Bool.eq_false_iff.mpr hx]; rfl
  · rw [Bool.eq_false_iff.mpr g] at h1 h2
    exact ⟨200, 200, [], false, by rw [h1]; rfl, by rw [h2]; rfl, by simp⟩

end Go.Proofs.Ytmclbiollhdbjaa.Pure
