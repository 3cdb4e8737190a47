/- The law FnExactPartsOfTree holds: for every input the program's PartsOfTree returns what the reference's returns, in every field, leaves its arguments as they were, and shares no memory. Conditions: none but those of the given statement. -/
import Derived.Test.YtmclbiollhdbjaaPrintZ6
import Derived.Test.YtmclbiollhdbjaaPrintZ7
import Derived.Test.YtmclbiollhdbjaaPrintZ8
import Derived.Test.YtmclbiollhdbjaaPrintZ9
import Derived.Test.YtmclbiollhdbjaaPrintZ11
import Derived.Test.YtmclbiollhdbjaaPrintZ12
namespace Go.Proofs.Ytmclbiollhdbjaa.Pure
open Go.RowKit Go.Proofs.Ytmclbiollhdbjaa.PrintZ Go.Proofs.YtmclbiollhdbjaaW.PrintWords Go.Proofs.YtmclbiollhdbjaaW.PrintLast Go.Proofs.YtmclbiollhdbjaaLib
set_option linter.unusedVariables false
set_option linter.unusedSimpArgs false

theorem FnExactPartsOfTree : laws_FnExactPartsOfTree.Pure := by
  intro l hw hl
  have h1 := spec_trIs_is l 200 (by omega)
  have h2 := impl_IsTree_is l 200 (by omega)
  unfold spec_PartsOfTree.f impl_PartsOfTree.f
  by_cases g : (decide (l.length ≤ 30) && trOk 30 1 l) = true
  · rw [g] at h1 h2
    obtain ⟨t, rfl, ht⟩ := isTree_tr l g
    cases t with
    | nil => exact ⟨200, 200, [], [], false, by rw [h1]; rfl, by rw [h2]; rfl, by simp, by simp⟩
    | node b a =>
      have hln := Tr.toL_length (Tr.node b a) 1
      have hsz : (Tr.node b a).size = b.size + a.size + 1 := rfl
      have hr : rd ((Tr.node b a).toL 1) 0 = ((b.size + 1 : Nat) : Int) := by simp only [Tr.toL, rd_cons0]; omega
      have hne : ((((Tr.node b a).toL 1).length : Int) == 0) = false := beq_eq_false_iff_ne.mpr (by omega)
      have e1 : wrap64 (1 + (b.size : Int)) = ((b.size + 1 : Nat) : Int) := by unfold wrap64; omega
      have e2 : wrap64 (-((b.size + 1 : Nat) : Int)) = -((b.size + 1 : Nat) : Int) := by unfold wrap64; omega
      refine ⟨200, 200, b.toL 1, a.toL 1, true, ?_, ?_, by rw [Tr.toL_length]; omega, by rw [Tr.toL_length]; omega⟩
      · rw [h1, Option.bind_some, if_pos rfl, hne, spec_PartsOfTree.j0, if_neg (by simp), toL_split b a 1 (by omega) (by omega) (by omega), Option.bind_some, e1, if_pos (by omega), if_pos (by omega), Int.toNat_natCast, toL_take,
          spec_l1Own_is _ (by rw [Tr.toL_length]; omega), Option.bind_some, if_pos (by omega), if_pos (by omega), hr, e2, moved_above b a 199 (by omega) (by omega), Option.bind_some]
      · rw [h2, Option.bind_some, if_pos rfl, if_neg (by omega), impl_parts_is b a 200 (by omega) (by omega), Option.bind_some]
  · rw [Bool.eq_false_iff.mpr g] at h1 h2
    exact ⟨200, 200, [], [], false, by rw [h1]; rfl, by rw [h2]; rfl, by simp, by simp⟩

end Go.Proofs.Ytmclbiollhdbjaa.Pure
