/- The law FnExactRankOfTree holds: for every input the program's RankOfTree returns what the reference's returns, in every field, leaves its arguments as they were, and shares no memory. Conditions: none but those of the given statement. -/
import Derived.Test.YtmclbiollhdbjaaPrintZ6
import Derived.Test.YtmclbiollhdbjaaPrintZ8
import Derived.Test.YtmclbiollhdbjaaPrintZ9
import Derived.Test.YtmclbiollhdbjaaPrintZ12
import Derived.Test.YtmclbiollhdbjaaPrintZ18
import Derived.Test.YtmclbiollhdbjaaPrintZ19
import Derived.Test.YtmclbiollhdbjaaPrintZ20
namespace Go.Proofs.Ytmclbiollhdbjaa.Pure
open Go.RowKit Go.Proofs.Ytmclbiollhdbjaa.PrintZ Go.Proofs.YtmclbiollhdbjaaW.PrintWords Go.Proofs.YtmclbiollhdbjaaW.PrintLast Go.Proofs.YtmclbiollhdbjaaLib
set_option linter.unusedVariables false
set_option linter.unusedSimpArgs false

theorem impl_rankOf_l0 (b a : Tr) (R : Int) (hs : b.size + a.size + 1 ≤ 20) : ∀ (d k j : Nat), b.size - j = d → j ≤ b.size → 100 + d < k →
    impl_rankOf.l0 k ((Tr.node b a).toL 1) (wrap64 (R + sumTo (fun j => catI j * catI (b.size + a.size - j)) j)) ((j + 1 : Nat) : Int) = some (wrap64 (R + sumTo (fun j => catI j * catI (b.size + a.size - j)) b.size)) := by
  have hln := Tr.toL_length (Tr.node b a) 1
  have hsz : (Tr.node b a).size = b.size + a.size + 1 := rfl
  have hr : rd ((Tr.node b a).toL 1) 0 = ((b.size + 1 : Nat) : Int) := by simp only [Tr.toL, rd_cons0]; omega
  generalize (Tr.node b a).toL 1 = l at hln hr ⊢
  intro d
  induction d with
  | zero =>
    intro k j hd hj hk
    obtain ⟨k, rfl⟩ : ∃ m, k = m + 1 := ⟨k - 1, by omega⟩
    obtain rfl : j = b.size := by omega
    rw [impl_rankOf.l0, if_pos (by omega), hr, if_neg (by omega)]
  | succ d ih =>
    intro k j hd hj hk
    obtain ⟨k, rfl⟩ : ∃ m, k = m + 1 := ⟨k - 1, by omega⟩
    have h := ih k (j + 1) (by omega) (by omega) (by omega)
    have c1 : 0 < (l.length : Int) := by omega
    have c2 : ((j + 1 : Nat) : Int) < ((b.size + 1 : Nat) : Int) := by omega
    have g1 := impl_catalan_is j k (by omega) (by omega)
    have g2 := impl_catalan_is (b.size + a.size - j) k (by omega) (by omega)
    have e1 : wrap64 (((j + 1 : Nat) : Int) - 1) = (j : Int) := by unfold wrap64; omega
    have e2 : wrap64 (((j + 1 : Nat) : Int) + 1) = ((j + 1 + 1 : Nat) : Int) := by clear e1; unfold wrap64; omega
    have e3 : wrap64 ((l.length : Int) - ((j + 1 : Nat) : Int)) = ((b.size + a.size - j : Nat) : Int) := by clear e1 e2; unfold wrap64; omega
    rw [impl_rankOf.l0, if_pos c1, hr, if_pos c2, e1, g1, Option.bind_some, e3, g2, Option.bind_some, e2, wrap_addr, wrap_addl]
    simp only [sumTo] at h
    rw [Int.add_assoc]
    exact h
theorem impl_rankOf_is : ∀ (t : Tr) (k : Nat), t.size ≤ 20 → 200 + t.size < k → impl_rankOf.f k (t.toL 1) = some (wrap64 t.rank)
  | .nil, k, _, hk => by
    obtain ⟨k, rfl⟩ : ∃ m, k = m + 1 := ⟨k - 1, by omega⟩
    rw [impl_rankOf.f, if_pos (by simp [Tr.toL]), show Tr.nil.rank = 0 from rfl, show wrap64 0 = 0 by unfold wrap64; omega]
  | .node b a, k, hs, hk => by
    obtain ⟨k, rfl⟩ : ∃ m, k = m + 1 := ⟨k - 1, by omega⟩
    have hln := Tr.toL_length (Tr.node b a) 1
    have hsz : (Tr.node b a).size = b.size + a.size + 1 := rfl
    have h := impl_rankOf_l0 b a (b.rank * catI a.size + a.rank) (by omega) b.size k 0 (by omega) (by omega) (by omega)
    rw [impl_rankOf.f, if_neg (by omega), impl_parts_is b a k (by omega) (by omega), Option.bind_some, impl_rankOf_is b k (by omega) (by omega), Option.bind_some, Tr.toL_length, impl_catalan_is _ k (by omega) (by omega), Option.bind_some, impl_rankOf_is a k (by omega) (by omega), Option.bind_some, wrap_mull, wrap_addl, wrap_addr]
    simp only [sumTo, Int.add_zero] at h
    refine Eq.trans h ?_
    simp only [Tr.rank]
    congr 2; omega
theorem wneg (n : Nat) (h : n ≤ 1000) : wrap64 (-(n : Int)) = -(n : Int) := by unfold wrap64; omega
theorem wrap_sum3 (S X r : Int) : wrap64 (wrap64 (wrap64 S + wrap64 X) + wrap64 r) = wrap64 (S + X + r) := by
  rw [wrap_addl, wrap_addr, Int.add_assoc, wrap_addl, Int.add_left_comm, wrap_addl, Int.add_left_comm, Int.add_assoc]
theorem catL_rd2 (N j : Nat) (hN : N ≤ 20) (hj : j ≤ N) : rd (catL.take (N + 1)) (j : Int) = catI j := by
  unfold catI
  simp [rd, List.getD_eq_getElem?_getD, List.getElem?_take_of_lt (show j < N + 1 by omega)]
theorem spec_trRank_is (N : Nat) (hN : N ≤ 20) : ∀ (t : Tr) (k : Nat), t.size ≤ N → 40 * t.size + 40 < k → spec_trRank.f k (t.toL 1) (catL.take (N + 1)) = some (wrap64 t.rank)
  | .nil, k, _, hk => by
    obtain ⟨k, rfl⟩ : ∃ m, k = m + 1 := ⟨k - 1, by omega⟩
    rw [spec_trRank.f, if_pos (by simp [Tr.toL]), show Tr.nil.rank = 0 from rfl, show wrap64 0 = 0 by unfold wrap64; omega]
  | .node b a, k, hs, hk => by
    obtain ⟨k, rfl⟩ : ∃ m, k = m + 1 := ⟨k - 1, by omega⟩
    have hln := Tr.toL_length (Tr.node b a) 1
    have hsz : (Tr.node b a).size = b.size + a.size + 1 := rfl
    have hr : rd ((Tr.node b a).toL 1) 0 = ((b.size + 1 : Nat) : Int) := by simp only [Tr.toL, rd_cons0]; omega
    have hq : (catL.take (N + 1)).length = N + 1 := catL_take_len _ (by omega)
    have hc := fun j hj => catL_rd2 N j hN hj
    have ib := fun k => spec_trRank_is N hN b k
    have ia := fun k => spec_trRank_is N hN a k
    have htk := toL_take b a 1
    have hmv := fun k => moved_above b a k (by omega)
    have hsp := toL_split b a 1 (by omega) (by omega) (by omega)
    generalize (Tr.node b a).toL 1 = l at hln hr htk hmv hsp ⊢
    generalize catL.take (N + 1) = C at hq hc ib ia ⊢
    have hl : ∀ (d k j : Nat), b.size - j = d → j ≤ b.size → 40 * (b.size + a.size) + 60 + d < k →
        spec_trRank.l0 k l C (wrap64 (sumTo (fun j => catI j * catI (b.size + a.size - j)) j)) (b.size : Int) (j : Int) = some (wrap64 (Tr.node b a).rank) := by
      intro d
      induction d with
      | zero =>
        intro k j hd hj hk
        obtain ⟨k, rfl⟩ : ∃ m, k = m + 1 := ⟨k - 1, by omega⟩
        obtain rfl : j = b.size := by omega
        have e1 : wrap64 (1 + (b.size : Int)) = ((b.size + 1 : Nat) : Int) := by unfold wrap64; omega
        have e2 := wneg (b.size + 1) (by clear e1; omega)
        have g1 := hmv k (by clear e1 e2; omega)
        have g2 := ib k (by clear e1 e2; omega) (by clear e1 e2; omega)
        have g3 := ia k (by clear e1 e2; omega) (by clear e1 e2; omega)
        have g4 := hc a.size (by clear e1 e2; omega)
        rw [spec_trRank.l0, if_neg (by clear e1 e2; omega), e1, if_pos (by clear e1 e2; omega), if_pos (by clear e1 e2; omega), if_pos (by clear e1 e2; omega), hr, e2, Int.toNat_natCast, g1, Option.bind_some, if_pos (by clear e1 e2; omega), htk, g2, Option.bind_some, Tr.toL_length,
          if_pos (by clear e1 e2; omega), if_pos (by clear e1 e2; omega), g3, Option.bind_some, g4, wrap_mull, wrap_sum3]
        rfl
      | succ d ih =>
        intro k j hd hj hk
        obtain ⟨k, rfl⟩ : ∃ m, k = m + 1 := ⟨k - 1, by omega⟩
        have e2 : wrap64 ((j : Int) + 1) = ((j + 1 : Nat) : Int) := by unfold wrap64; omega
        have e3 : wrap64 (wrap64 ((l.length : Int) - 1) - (j : Int)) = ((b.size + a.size - j : Nat) : Int) := by clear e2; unfold wrap64; omega
        have h := ih k (j + 1) (by clear e2 e3; omega) (by clear e2 e3; omega) (by clear e2 e3; omega)
        have g1 := hc j (by clear e2 e3; omega)
        have g2 := hc (b.size + a.size - j) (by clear e2 e3; omega)
        rw [spec_trRank.l0, if_pos (by clear e2 e3; omega), if_pos (by clear e2 e3; omega), if_pos (by clear e2 e3; omega), e3, if_pos (by clear e2 e3; omega), if_pos (by clear e2 e3; omega), g1, g2, e2, wrap_addr, wrap_addl]
        exact h
    rw [spec_trRank.f, if_neg (by omega), hsp, Option.bind_some]
    have h0 := hl b.size k 0 (by omega) (by omega) (by omega)
    rw [show sumTo (fun j => catI j * catI (b.size + a.size - j)) 0 = 0 from rfl, show wrap64 0 = 0 by unfold wrap64; omega] at h0
    exact h0
theorem FnExactRankOfTree : laws_FnExactRankOfTree.Pure := by
  intro l hw hl
  have h1 := spec_trIs_is l 2000 (by omega)
  have h2 := impl_IsTree_is l 2001 (by omega)
  unfold spec_RankOfTree.f impl_RankOfTree.f
  by_cases g : (decide (l.length ≤ 30) && trOk 30 1 l) = true
  · rw [g] at h1 h2
    obtain ⟨t, rfl, ht⟩ := isTree_tr l g
    by_cases h20 : t.size ≤ 20
    · refine ⟨2000, 2001, wrap64 t.rank, true, ?_, ?_⟩
      · rw [if_neg (by rw [Tr.toL_length]; omega), h1, Option.bind_some, spec_RankOfTree.j0, if_neg (by simp), Tr.toL_length, spec_trAll_is t.size 1999 h20 (by omega), Option.bind_some, spec_trRank_is t.size h20 t 1999 (Nat.le_refl _) (by omega), Option.bind_some]
      · rw [h2, Option.bind_some, if_pos rfl, if_neg (by rw [Tr.toL_length]; omega), impl_rankOf_is t 2001 h20 (by omega), Option.bind_some]
    · refine ⟨2000, 2001, 0, false, ?_, ?_⟩
      · rw [if_pos (by rw [Tr.toL_length]; omega), spec_RankOfTree.j0, if_pos rfl]
      · rw [h2, Option.bind_some, if_pos rfl, if_pos (by rw [Tr.toL_length]; omega)]
  · rw [Bool.eq_false_iff.mpr g] at h1 h2
    refine ⟨2000, 2001, 0, false, ?_, by rw [h2]; rfl⟩
    by_cases h20 : (l.length : Int) > 20
    · rw [if_pos h20]; rfl
    · rw [if_neg h20, h1]; rfl

end Go.Proofs.Ytmclbiollhdbjaa.Pure
