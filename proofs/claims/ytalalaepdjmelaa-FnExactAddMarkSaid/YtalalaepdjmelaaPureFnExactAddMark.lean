/- The law FnExactAddMark holds: for every input the program's AddMark returns what the reference's returns, in every field, leaves its arguments as they were, and shares no memory. Conditions: none but those of the given statement. -/
import Derived.Test.YtalalaepdjmelaaPrintH1
import Derived.Test.YtalalaepdjmelaaPrintH2
import Derived.Test.YtalalaepdjmelaaPrintH3
import Derived.Test.YtalalaepdjmelaaPrintH6
import Derived.Test.YtalalaepdjmelaaPrintH15
import Derived.Test.YtalalaepdjmelaaPrintH17
namespace Go.Proofs.Ytalalaepdjmelaa.Pure
open Go.RowKit Go.Proofs.Ytalalaepdjmelaa.PrintH Go.Proofs.YtalalaepdjmelaaW.PrintWords Go.Proofs.YtalalaepdjmelaaW.PrintLast Go.Proofs.YtalalaepdjmelaaLib
set_option linter.unusedVariables false
set_option linter.unusedSimpArgs false

def insL (m : Int) : List Int → List Int
  | [] => [m]
  | x :: r => if x < m then x :: insL m r else m :: x :: r
theorem insL_perm (m : Int) : ∀ l, (insL m l).Perm (l ++ [m])
  | [] => List.Perm.refl _
  | x :: r => by
    rw [insL]
    split
    · exact (insL_perm m r).cons x
    · exact (List.perm_append_comm (l₁ := [m]) (l₂ := x :: r))
theorem insL_ris (a m : Int) (h1 : 1 ≤ m) (h2 : m ≤ a) : ∀ (l : List Int) (p : Int), risL 1 a p l = true → m ∉ l → p < m → risL 1 a p (insL m l) = true
  | [], p, _, _, hp => by simp [insL, risL, h1, h2, hp]
  | x :: r, p, h, hm, hp => by
    have h' := h
    simp only [risL, Bool.and_eq_true, decide_eq_true_eq] at h
    rw [List.mem_cons, not_or] at hm
    rw [insL]
    split
    · rename_i hx
      simp only [risL, Bool.and_eq_true, decide_eq_true_eq]
      exact ⟨h.1, h.2.1, insL_ris a m h1 h2 r x h.2.2 hm.2 hx⟩
    · rename_i hx
      have hx2 : m < x := by
        have h3 := hm.1
        omega
      simp only [risL, Bool.and_eq_true, decide_eq_true_eq]
      exact ⟨⟨h1, h2⟩, hp, h.1, hx2, h.2.2⟩
theorem risL_pair (lo hi : Int) : ∀ (l : List Int) (p : Int), risL lo hi p l = true → (p :: l).Pairwise (fun x y => x < y)
  | [], p, _ => by simp
  | x :: r, p, h => by
    simp only [risL, Bool.and_eq_true, decide_eq_true_eq] at h
    have ih := risL_pair lo hi r x h.2.2
    rw [List.pairwise_cons]
    refine ⟨fun y hy => ?_, ih⟩
    rcases List.mem_cons.1 hy with rfl | hy
    · exact h.2.1
    · have := (List.pairwise_cons.1 ih).1 y hy
      omega
theorem sortL_perm (l : List Int) : (sortL l).Perm l := List.mergeSort_perm _ _
theorem sortL_pair (l : List Int) : (sortL l).Pairwise (fun x y => x ≤ y) := by
  have h := List.pairwise_mergeSort (le := fun x y : Int => decide (x ≤ y)) (by intro a b c; simp; omega) (by intro a b; simp; omega) l
  exact h.imp (fun hx => by simpa using hx)
theorem sortL_is (l ys : List Int) (hp : ys.Perm l) (hs : ys.Pairwise (fun x y => x ≤ y)) : sortL l = ys :=
  List.Perm.eq_of_pairwise (le := fun x y : Int => x ≤ y) (fun a b _ _ h1 h2 => by omega) (sortL_pair l) hs ((sortL_perm l).trans hp.symm)
theorem has_l0 (l : List Int) (m : Int) (hl : l.length ≤ 1000000) : ∀ (d k i : Nat), l.length - i = d → i ≤ l.length → d < k → spec_l1Has.l0 k m l (l.length : Int) i = some (decide (m ∈ l.drop i))
  | 0, k, i, hd, hi, hk => by
    obtain ⟨k, rfl⟩ : ∃ m, k = m + 1 := ⟨k - 1, by omega⟩
    obtain rfl : i = l.length := by omega
    rw [spec_l1Has.l0, if_neg (by omega)]; simp
  | d + 1, k, i, hd, hi, hk => by
    obtain ⟨k, rfl⟩ : ∃ m, k = m + 1 := ⟨k - 1, by omega⟩
    have hlt : i < l.length := by omega
    have e2 : wrap64 ((i : Int) + 1) = ((i + 1 : Nat) : Int) := by unfold wrap64; omega
    have ih := has_l0 l m hl d k (i + 1) (by omega) (by omega) (by omega)
    rw [spec_l1Has.l0, if_pos (by clear e2; omega), if_pos (by clear e2; omega), if_pos (by clear e2; omega), rd_nat l i hlt, e2, ih, List.drop_eq_getElem_cons hlt]
    by_cases hc : l[i] = m
    · rw [if_pos hc, hc]; simp
    · rw [if_neg hc]
      simp only [List.mem_cons]
      congr 1
      have : ¬ m = l[i] := fun h => hc h.symm
      simp [this]
theorem put_l0 (l : List Int) (m : Int) (hl : l.length ≤ 1000000) (hm : m ∉ l) : ∀ (d k i : Nat), l.length - i = d → i ≤ l.length → d < k → spec_l1Put.l0 k l m i = some (l.take i ++ insL m (l.drop i))
  | 0, k, i, hd, hi, hk => by
    obtain ⟨k, rfl⟩ : ∃ m, k = m + 1 := ⟨k - 1, by omega⟩
    obtain rfl : i = l.length := by omega
    rw [spec_l1Put.l0, if_neg (by omega), Option.bind_some, if_pos (by omega), if_pos (by omega), Option.bind_some, Int.toNat_natCast, List.take_length, List.nil_append, if_pos (by simp; omega), Option.bind_some, if_pos (by omega), Option.bind_some, List.drop_length, Option.bind_some, if_pos (by simp; omega)]
    simp [insL]
  | d + 1, k, i, hd, hi, hk => by
    obtain ⟨k, rfl⟩ : ∃ m, k = m + 1 := ⟨k - 1, by omega⟩
    have hlt : i < l.length := by omega
    have e2 : wrap64 ((i : Int) + 1) = ((i + 1 : Nat) : Int) := by unfold wrap64; omega
    have ih := put_l0 l m hl hm d k (i + 1) (by omega) (by omega) (by omega)
    rw [spec_l1Put.l0, if_pos (by clear e2; omega), if_pos (by clear e2; omega), rd_nat l i hlt, e2]
    have hmem : l[i] ∈ l := List.getElem_mem hlt
    by_cases hc : l[i] < m
    · rw [if_pos hc, ih, List.drop_eq_getElem_cons hlt, insL, if_pos hc, List.take_succ_eq_append_getElem hlt, List.append_assoc]
      rfl
    · have hne : ¬ l[i] = m := fun h => hm (h ▸ hmem)
      rw [if_neg hc, if_neg hne, Option.bind_some, if_pos (by clear e2; omega), Option.bind_some, Int.toNat_natCast, List.nil_append, if_pos (by simp; clear e2; omega), Option.bind_some, if_pos (by simp; clear e2; omega), Option.bind_some, Option.bind_some, if_pos (by simp; clear e2; omega)]
      rw [List.drop_eq_getElem_cons hlt, insL, if_neg hc, List.append_assoc]
      rfl
theorem FnExactAddMark : laws_FnExactAddMark.Pure := by
  intro a l m _ _ _ hl
  have h1 := spec_stGood_is a l (by omega) 1100000 (by omega)
  have h2 := impl_AreMarks_is a l (by omega) 1100000 (by omega)
  have h3 := impl_AreMarks_is a (sortL (l ++ [m])) (by rw [sortL_len]; simp; omega) 1100000 (by rw [sortL_len]; simp; omega)
  unfold spec_AddMark.f impl_AddMark.f
  refine ⟨1100000, 1100000, ?_⟩
  rw [h1, h2, h3, Option.bind_some, Option.bind_some]
  by_cases hg : ((decide (0 ≤ a) && decide (a ≤ 100)) && risL 1 a 0 l) = true
  · rw [hg, if_pos rfl, if_pos rfl, if_pos hl, Option.bind_some]
    simp only [Bool.and_eq_true, decide_eq_true_eq] at hg
    obtain ⟨⟨ha0, ha1⟩, hr⟩ := hg
    have hpa : (decide (0 ≤ a) && decide (a ≤ 100)) = true := by simp [ha0, ha1]
    rw [hpa, Bool.true_and, spec_l1In_is, Option.bind_some]
    have hmemS : m ∈ sortL (l ++ [m]) := (sortL_perm _).mem_iff.2 (by simp)
    by_cases hin : 1 ≤ m ∧ m ≤ a
    · have hind : (decide (1 ≤ m) && decide (m ≤ a)) = true := by simp [hin]
      have hhas := has_l0 l m hl l.length 1100000 0 (by omega) (by omega) (by omega)
      rw [List.drop_zero] at hhas
      rw [hind, if_pos rfl]
      unfold spec_l1Has.f
      rw [show spec_l1Has.l0 1100000 m l (l.length : Int) 0 = _ from hhas, Option.bind_some]
      by_cases hm : m ∈ l
      · have hf : risL 1 a 0 (sortL (l ++ [m])) = false := by
          rw [Bool.eq_false_iff]
          intro h
          have hp := (List.pairwise_cons.1 (risL_pair 1 a _ 0 h)).2
          have hn : (sortL (l ++ [m])).Nodup := hp.imp (fun h => by omega)
          have hn2 := (sortL_perm (l ++ [m])).nodup_iff.1 hn
          rw [List.nodup_append] at hn2
          exact hn2.2.2 m hm m (by simp) rfl
        rw [hf, decide_eq_true hm, if_neg (by decide)]
        refine ⟨[], false, ?_, rfl, by simp⟩
        rw [show (1100000 : Nat) = 1099999 + 1 from rfl, spec_AddMark.j0, if_pos rfl]
      · have hri := insL_ris a m hin.1 hin.2 l 0 hr hm (by omega)
        have hs : sortL (l ++ [m]) = insL m l := sortL_is _ _ (insL_perm m l) ((List.pairwise_cons.1 (risL_pair 1 a _ 0 hri)).2.imp (fun h => by omega))
        have hput := put_l0 l m hl hm l.length 1099999 0 (by omega) (by omega) (by omega)
        rw [hs, hri, decide_eq_false hm, if_pos rfl]
        refine ⟨insL m l, true, ?_, rfl, ?_⟩
        · rw [show (1100000 : Nat) = 1099999 + 1 from rfl, spec_AddMark.j0, if_neg (by decide), spec_l1Own_is l (by omega), Option.bind_some]
          unfold spec_l1Put.f
          rw [show spec_l1Put.l0 1099999 l m 0 = _ from hput]
          simp
        · have h4 := risL_length 1 a l 0 hr (by omega)
          have h5 := (insL_perm m l).length_eq
          simp at h5
          omega
    · have hind : (decide (1 ≤ m) && decide (m ≤ a)) = false := by simp only [Bool.and_eq_false_iff, decide_eq_false_iff_not]; omega
      have hf : risL 1 a 0 (sortL (l ++ [m])) = false := by
        rw [Bool.eq_false_iff]
        intro h
        exact hin (risL_mem 1 a _ 0 h m hmemS)
      rw [hind, if_neg (by decide), hf, if_neg (by decide)]
      refine ⟨[], false, ?_, rfl, by simp⟩
      rw [show (1100000 : Nat) = 1099999 + 1 from rfl, spec_AddMark.j0, if_pos rfl]
  · rw [Bool.eq_false_iff.mpr hg, if_neg (by decide), if_neg (by decide)]
    exact ⟨[], false, rfl, rfl, by simp⟩

end Go.Proofs.Ytalalaepdjmelaa.Pure
