/- The law FnExactSumOfTree holds: for every input the program's SumOfTree returns what the reference's returns, in every field, leaves its arguments as they were, and shares no memory. Conditions: none but those of the given statement. -/
import Derived.Test.YtmclbiollhdbjaaPrintZ6
import Derived.Test.YtmclbiollhdbjaaPrintZ8
import Derived.Test.YtmclbiollhdbjaaPrintZ12
import Derived.Test.YtmclbiollhdbjaaPrintZ13
namespace Go.Proofs.Ytmclbiollhdbjaa.Pure
open Go.RowKit Go.Proofs.Ytmclbiollhdbjaa.PrintZ Go.Proofs.YtmclbiollhdbjaaW.PrintWords Go.Proofs.YtmclbiollhdbjaaW.PrintLast Go.Proofs.YtmclbiollhdbjaaLib
set_option linter.unusedVariables false
set_option linter.unusedSimpArgs false

theorem sumTo_range (t : Tr) : ∀ n : Nat, n ≤ 31 → t.size ≤ 30 → 0 ≤ sumTo (fun x => (t.lenT x : Int)) n ∧ sumTo (fun x => (t.lenT x : Int)) n ≤ 30 * n
  | 0, _, _ => by simp [sumTo]
  | n + 1, h, ht => by
    have h1 := sumTo_range t n (by omega) ht
    have h2 := t.lenT_le n
    simp only [sumTo]
    generalize sumTo (fun x => (t.lenT x : Int)) n = u at h1 ⊢
    generalize t.lenT (n : Int) = v at h2 ⊢
    omega
theorem impl_SumOfTree_l0 (t : Tr) (ht : t.size ≤ 30) : ∀ (d k n : Nat), t.size + 1 - n = d → n ≤ t.size + 1 → d + 100 < k →
    impl_SumOfTree.l0 k (t.toL 1) (sumTo (fun x => (t.lenT x : Int)) n) ((t.size : Int) + 1) (n : Int) = some (t.sum, true) := by
  intro d
  induction d with
  | zero =>
    intro k n hd hn hk
    obtain ⟨k, rfl⟩ : ∃ m, k = m + 1 := ⟨k - 1, by omega⟩
    obtain rfl : n = t.size + 1 := by omega
    rw [impl_SumOfTree.l0, if_neg (by omega), t.sum_is]
  | succ d ih =>
    intro k n hd hn hk
    obtain ⟨k, rfl⟩ : ∃ m, k = m + 1 := ⟨k - 1, by omega⟩
    have c1 : (n : Int) < (t.size : Int) + 1 := by omega
    have c2 : 2 * t.size < k := by omega
    have hih := ih k (n + 1) (by omega) (by omega) (by omega)
    have e2 : wrap64 ((n : Int) + 1) = ((n + 1 : Nat) : Int) := by unfold wrap64; omega
    have hn31 : n ≤ 31 := by omega
    clear ih hd hn hk
    have hlen := dropsT_len t 0 (n : Int) []
    simp only [List.length_nil, Nat.zero_add, Int.sub_zero] at hlen
    have hle := t.lenT_le n
    have hs := sumTo_range t n hn31 ht
    have e1 : wrap64 (sumTo (fun x => (t.lenT x : Int)) n + (t.lenT (n : Int) : Int)) = sumTo (fun x => (t.lenT x : Int)) (n + 1) := by
      simp only [sumTo]
      generalize sumTo (fun x => (t.lenT x : Int)) n = u at hs ⊢
      generalize t.lenT (n : Int) = v at hle ⊢
      unfold wrap64; omega
    have hd := impl_treeDrops_is t k n (Nat.le_trans ht (by decide)) c2
    rw [impl_SumOfTree.l0, if_pos c1, hd, Option.bind_some, hlen, e1, e2]
    exact hih
theorem FnExactSumOfTree : laws_FnExactSumOfTree.Pure := by
  intro l hw hl
  have h1 := spec_trIs_is l 300 (by omega)
  have h2 := impl_IsTree_is l 300 (by omega)
  unfold spec_SumOfTree.f impl_SumOfTree.f
  by_cases g : (decide (l.length ≤ 30) && trOk 30 1 l) = true
  · rw [g] at h1 h2
    obtain ⟨t, rfl, ht⟩ := isTree_tr l g
    have e1 := spec_trTests_is t 1 300 (by omega) (by omega) (by omega) (by omega)
    have e2 := impl_SumOfTree_l0 t ht (t.size + 1) 300 0 (by omega) (by omega) (by omega)
    have e3 : wrap64 (((t.toL 1).length : Int) + 1) = (t.size : Int) + 1 := by rw [Tr.toL_length]; unfold wrap64; omega
    refine ⟨300, 300, t.sum, true, by rw [h1]; simp [e1], ?_⟩
    rw [h2, Option.bind_some, if_pos rfl, e3]
    exact e2
  · rw [Bool.eq_false_iff.mpr g] at h1 h2
    exact ⟨300, 300, 0, false, by rw [h1]; rfl, by rw [h2]; rfl⟩

end Go.Proofs.Ytmclbiollhdbjaa.Pure
