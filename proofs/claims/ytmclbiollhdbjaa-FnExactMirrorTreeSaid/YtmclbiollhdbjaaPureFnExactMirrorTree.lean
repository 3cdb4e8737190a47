/- The law FnExactMirrorTree holds: for every input the program's MirrorTree returns what the reference's returns, in every field, leaves its arguments as they were, and shares no memory. Conditions: none but those of the given statement. -/
import Derived.Test.YtmclbiollhdbjaaPrintY6
import Derived.Test.YtmclbiollhdbjaaPrintY8
import Derived.Test.YtmclbiollhdbjaaPrintY9
import Derived.Test.YtmclbiollhdbjaaPrintY10
import Derived.Test.YtmclbiollhdbjaaPrintY12
import Derived.Test.YtmclbiollhdbjaaPrintY13
import Derived.Test.YtmclbiollhdbjaaPrintY14
import Derived.Test.YtmclbiollhdbjaaPrintY15
import Derived.Test.YtmclbiollhdbjaaPrintY16
namespace Go.Proofs.Ytmclbiollhdbjaa.Pure
open Go.RowKit Go.Proofs.Ytmclbiollhdbjaa.PrintY Go.Proofs.YtmclbiollhdbjaaW.PrintWords Go.Proofs.YtmclbiollhdbjaaW.PrintLast Go.Proofs.YtmclbiollhdbjaaLib
set_option linter.unusedVariables false
set_option linter.unusedSimpArgs false

theorem joined_is (b a : Tr) (k : Nat) (hs : b.size + a.size ≤ 1000) (hk : a.size < k) : impl_joined.f k (b.toL 1) (a.toL 1) = some ((Tr.node b a).toL 1) := by
  unfold impl_joined.f
  have e := impl_shifted_is (a.toL 1) ((b.size : Int) + 1) k (by rw [Tr.toL_length]; omega) (by omega) (fun x hx => by have := Tr.toL_range a _ x hx; omega) (by rw [Tr.toL_length]; exact hk)
  rw [Tr.toL_length, if_pos (by omega), e, Option.bind_some, Tr.toL_shift, if_pos (by rw [Tr.toL_length]; omega)]
  simp only [Tr.toL, List.cons_append, List.nil_append]
  rw [show (b.size : Int) + 1 = 1 + (b.size : Int) by omega, show (1 : Int) + (1 + (b.size : Int)) = 1 + (b.size : Int) + 1 by omega]
theorem impl_mirrored_is : ∀ (t : Tr) (k : Nat), t.size ≤ 500 → 2 * t.size + 2 < k → impl_mirrored.f k (t.toL 1) = some (t.mirror.toL 1)
  | .nil, k, _, hk => by
    obtain ⟨k, rfl⟩ : ∃ m, k = m + 1 := ⟨k - 1, by omega⟩
    rw [impl_mirrored.f, if_pos (by simp [Tr.toL])]; rfl
  | .node b a, k, hs, hk => by
    obtain ⟨k, rfl⟩ : ∃ m, k = m + 1 := ⟨k - 1, by omega⟩
    have hln := Tr.toL_length (Tr.node b a) 1
    have hsz : (Tr.node b a).size = b.size + a.size + 1 := rfl
    have m1 := b.mirror_size
    have m2 := a.mirror_size
    rw [impl_mirrored.f, if_neg (by omega), impl_parts_is b a k (by omega) (by omega), Option.bind_some, impl_mirrored_is a k (by omega) (by omega), Option.bind_some, impl_mirrored_is b k (by omega) (by omega), Option.bind_some, joined_is _ _ k (by omega) (by omega)]
    rfl
theorem trJoin_is (b a : Tr) (k : Nat) (hs : b.size + a.size ≤ 1000) (hk : a.size < k) : spec_trJoin.f k (b.toL 1) (a.toL 1) = some ((Tr.node b a).toL 1) := by
  unfold spec_trJoin.f
  have e0 : wrap64 ((b.size : Int) + 1) = (b.size : Int) + 1 := by unfold wrap64; omega
  have e := spec_trMoved_is (a.toL 1) ((b.size : Int) + 1) k (by rw [Tr.toL_length]; omega) (by clear e0; omega) (fun x hx => by have := Tr.toL_range a _ x hx; clear e0; omega) (by rw [Tr.toL_length]; exact hk)
  rw [Tr.toL_length, e0, Option.bind_some, if_pos (by clear e0 e; simp [Tr.toL_length]; omega), Option.bind_some, e, Option.bind_some, Tr.toL_shift, if_pos (by clear e0 e; simp [Tr.toL_length]; omega)]
  simp only [Tr.toL, List.cons_append, List.nil_append]
  rw [show (b.size : Int) + 1 = 1 + (b.size : Int) by clear e0; omega, show (1 : Int) + (1 + (b.size : Int)) = 1 + (b.size : Int) + 1 by clear e0; omega]
theorem spec_trMirror_is : ∀ (t : Tr) (k : Nat), t.size ≤ 500 → 2 * t.size + 2 < k → spec_trMirror.f k (t.toL 1) = some (t.mirror.toL 1)
  | .nil, k, _, hk => by
    obtain ⟨k, rfl⟩ : ∃ m, k = m + 1 := ⟨k - 1, by omega⟩
    rw [spec_trMirror.f, if_pos (by simp [Tr.toL])]; rfl
  | .node b a, k, hs, hk => by
    obtain ⟨k, rfl⟩ : ∃ m, k = m + 1 := ⟨k - 1, by omega⟩
    have hln := Tr.toL_length (Tr.node b a) 1
    have hsz : (Tr.node b a).size = b.size + a.size + 1 := rfl
    have hr : rd ((Tr.node b a).toL 1) 0 = ((b.size + 1 : Nat) : Int) := by simp only [Tr.toL, rd_cons0]; omega
    have m1 := b.mirror_size
    have m2 := a.mirror_size
    have g1 := moved_above b a k (by omega) (by omega)
    have g2 := spec_trMirror_is a k (by omega) (by omega)
    have g3 := spec_trMirror_is b k (by omega) (by omega)
    have g4 := trJoin_is a.mirror b.mirror k (by omega) (by omega)
    have e1 : wrap64 (1 + (b.size : Int)) = ((b.size + 1 : Nat) : Int) := by unfold wrap64; omega
    have e2 : wrap64 (-((b.size + 1 : Nat) : Int)) = -((b.size + 1 : Nat) : Int) := by clear e1; unfold wrap64; omega
    rw [spec_trMirror.f, if_neg (by clear e1 e2; omega), toL_split b a 1 (by clear e1 e2; omega) (by clear e1 e2; omega) (by clear e1 e2; omega), Option.bind_some, e1, if_pos (by clear e1 e2; omega), if_pos (by clear e1 e2; omega), if_pos (by clear e1 e2; omega), hr, e2, Int.toNat_natCast, g1, Option.bind_some, g2, Option.bind_some,
      if_pos (by clear e1 e2; omega), toL_take, g3, Option.bind_some, g4, Option.bind_some]
    rfl
theorem FnExactMirrorTree : laws_FnExactMirrorTree.Pure := by
  intro l hw hl
  have h1 := spec_trIs_is l 300 (by omega)
  have h2 := impl_IsTree_is l 300 (by omega)
  unfold spec_MirrorTree.f impl_MirrorTree.f
  by_cases g : (decide (l.length ≤ 30) && trOk 30 1 l) = true
  · rw [g] at h1 h2
    obtain ⟨t, rfl, ht⟩ := isTree_tr l g
    refine ⟨300, 300, t.mirror.toL 1, true, ?_, ?_, by rw [Tr.toL_length, t.mirror_size]; omega⟩
    · rw [h1, Option.bind_some, if_pos rfl, spec_trMirror_is t 300 (by omega) (by omega), Option.bind_some]
    · rw [h2, Option.bind_some, if_pos rfl, impl_mirrored_is t 300 (by omega) (by omega), Option.bind_some]
  · rw [Bool.eq_false_iff.mpr g] at h1 h2
    exact ⟨300, 300, [], false, by rw [h1]; rfl, by rw [h2]; rfl, by simp⟩

end Go.Proofs.Ytmclbiollhdbjaa.Pure
