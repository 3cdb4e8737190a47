-- written by this session's own driver (wip/gen.py) with the kit's print and contracts of our own
import Derived.Test.YtalalaepdjmelaaPrintB0
import Derived.Test.YtalalaepdjmelaaPrintB10
import Derived.Test.YtalalaepdjmelaaPrintB11
namespace Go.Proofs.Ytalalaepdjmelaa.PrintB
open Go.RowKit Go.Proofs.YtalalaepdjmelaaLib Go.Proofs.YtalalaepdjmelaaW.PrintWords Go.Proofs.YtalalaepdjmelaaW.PrintLast Go.Proofs.YtalalaepdjmelaaW.PrintMore
attribute [local go_sem] max2_int min2_int max_two min_two max_three min_three max_four min_four   -- for this text's walks alone
set_option linter.unusedVariables false
set_option linter.unusedSimpArgs false

/-! behind spec_l1Rising -/
-- LIB Marks
theorem rd_nat (l : List Int) (i : Nat) (h : i < l.length) : rd l (i : Int) = l[i] := by simp [rd, List.getD_eq_getElem?_getD, h]
theorem spec_l1Rising_l0 (l : List Int) (lo hi : Int) (hl : l.length ≤ 100000000) : ∀ (d k : Nat) (i : Nat) (p : Int), i ≤ l.length → l.length - i = d → d < k → (i = 0 → p = lo - 1) → (0 < i → p = rd l ((i - 1 : Nat) : Int)) →
    spec_l1Rising.l0 k l lo hi l (l.length : Int) (i : Int) = some (risL lo hi p (l.drop i)) := by
  intro d
  induction d with
  | zero =>
    intro k i p h1 hd hk _ _
    obtain ⟨k, rfl⟩ : ∃ m, k = m + 1 := ⟨k - 1, by omega⟩
    obtain rfl : i = l.length := by omega
    simp only [spec_l1Rising.l0]
    rw [if_neg (by omega)]
    simp [risL]
  | succ d ih =>
    intro k i p h1 hd hk hp0 hp1
    obtain ⟨k, rfl⟩ : ∃ m, k = m + 1 := ⟨k - 1, by omega⟩
    have hlt : i < l.length := by omega
    have e2 : wrap64 ((i : Int) + 1) = ((i + 1 : Nat) : Int) := by unfold wrap64; omega
    have hr := rd_nat l i hlt
    have i1 := ih k (i + 1) (rd l (i : Int)) (by omega) (by omega) (by omega) (fun h => by omega) (fun _ => by rw [Nat.add_sub_cancel])
    simp only [spec_l1Rising.l0]
    rw [if_pos (by omega), if_pos (by omega), if_pos (by omega), spec_l1In_is, List.drop_eq_getElem_cons hlt, ← hr, e2, i1]
    simp only [Option.bind_some, risL]
    generalize rd l (i : Int) = x
    by_cases hw : (decide (lo ≤ x) && decide (x ≤ hi)) = true
    · rw [if_pos hw, hw, Bool.true_and]
      simp only [Bool.and_eq_true, decide_eq_true_eq] at hw
      by_cases hi0 : i = 0
      · have := hp0 hi0
        rw [if_neg (by omega), decide_eq_true (by omega : p < x), Bool.true_and]
      · have e3 : wrap64 ((i : Int) - 1) = ((i - 1 : Nat) : Int) := by unfold wrap64; omega
        rw [if_pos (by omega), e3, if_pos (by omega), if_pos (by omega), ← hp1 (by omega)]
        by_cases hlt2 : p < x
        · rw [if_neg (by omega), decide_eq_true hlt2, Bool.true_and]
        · rw [if_pos (by omega), decide_eq_false hlt2, Bool.false_and]
    · rw [if_neg hw, Bool.eq_false_iff.mpr hw, Bool.false_and]
theorem spec_l1Rising_is (l : List Int) (lo hi : Int) (hl : l.length ≤ 100000000) (k : Nat) (hk : l.length < k) : spec_l1Rising.f k l lo hi = some (risL lo hi (lo - 1) l) := by
  unfold spec_l1Rising.f
  have h := spec_l1Rising_l0 l lo hi hl l.length k 0 (lo - 1) (by omega) (by omega) hk (fun _ => rfl) (fun h => by omega)
  simpa using h

/-! ### spec_stGood: function 26 -/
def spec_stGood.f (k : Nat) (a0 : Int) (l1 : List Int) : Option (Bool) := (spec_stFloors.f a0).bind fun t125 => (if t125 = true then ((spec_l1Rising.f k l1 1 a0).bind fun t126 => (some t126)) else (some false))
theorem spec_stGood.mono : ∀ a0 a1 k, LeO (spec_stGood.f k a0 a1) (spec_stGood.f (k + 1) a0 a1) := by
  intro a0 a1 k
  unfold spec_stGood.f
  repeat' first
      | (with_reducible exact spec_l1Rising.mono _ _ _ _)
      | (with_reducible exact LeO.refl _)
      | (with_reducible exact LeO.none _)
      | (with_reducible refine LeO.ite ?_ ?_)
      | (with_reducible refine LeO.bind ?_ (fun _ => ?_))
      | exact spec_l1Rising.mono _ _ _ _
      | exact LeO.none _
      | refine LeO.ite ?_ ?_
      | refine LeO.bind ?_ (fun _ => ?_)
set_option maxHeartbeats 8000000 in
set_option maxRecDepth 100000 in
theorem spec_stGood.calls (k : Nat) (a0 : Int) (A1 : Option Addr) (c1 : Nat) (l1 : List Int) (r : Bool) (w : World) (hr1 : Kd.C (Kd.int .i64) w A1 l1.length l1) (hc1 : l1.length ≤ c1) (h : spec_stGood.f k a0 l1 = some r) :
    Calls Try.prog 26 #[.int .i64 a0, .slice A1 l1.length c1] w fun e w' => e = .returned (.bool r) ∧ Drawn0 w w' := by
  have HR1 := Aside0.mk hr1
  have HC1 := Aside0.mk hc1
  clear hr1 hc1
  have H : ((spec_stFloors.f a0).bind fun t125 => (if t125 = true then ((spec_l1Rising.f k l1 1 a0).bind fun t126 => (some t126)) else (some false))) = some r := h
  clear h
  replace H := Option.bind_eq_some_iff.mp H
  obtain ⟨t125, A30, H⟩ := H
  replace H : (if t125 = true then ((spec_l1Rising.f k l1 1 a0).bind fun t126 => (some t126)) else (some false)) = some r := H
  have A3 := Aside0.mk A30
  clear A30
  by_cases c4 : t125 = true
  · subst c4
    have H1 : ((spec_l1Rising.f k l1 1 a0).bind fun t126 => (some t126)) = some r := by rw [if_pos rfl] at H; exact H
    clear H
    have H := H1
    clear H1
    replace H := Option.bind_eq_some_iff.mp H
    obtain ⟨t126, A50, H⟩ := H
    replace H : (some t126) = some r := H
    have A5 := Aside0.mk A50
    clear A50
    obtain rfl := Option.some.inj H
    go_enter Try.func26, Try.ntmps26
    go_wp2_with (first | ((with_reducible refine gate_callee (f := 53) rfl ?_); refine goesL_ (some 6) rfl rfl Try.func53 (by kernel_rfl) rfl #[.int .i64 a0] rfl (by (try simp only [List.map_toArray, List.map_cons, List.map_nil]); first | done | rfl | (simp only [List.length_drop, List.length_take]; rfl)) ?_; (with_reducible refine (spec_stFloors.calls0 a0 true _ A3.out).mono ?_); rintro e w' ⟨rfl, rfl⟩; refine ⟨_, rfl, ?_⟩) | (go_at_call 54; (with_reducible refine (spec_l1Rising.calls k _ _ l1 1 a0 t126 _ ?side1 ?side2 A5.out).mono ?_); (case side1 => repeat (first | exact HR1.out | (with_reducible refine Kd.C_alloc ?_ _) | (with_reducible refine Kd.C_drewN ?_ _) | (with_reducible refine Kd.C_drew ?_))); (case side2 => exact HC1.out); rintro e w' ⟨rfl, ⟨nd, rfl⟩⟩))
    go_ret
    exact ⟨by first | rfl | (simp; done) | (simp [*]; done), by repeat (first | exact Drawn0.refl _ | apply Drawn0.step)⟩
  · replace c4 := Bool.eq_false_iff.mpr c4
    subst c4
    have H1 : (some false) = some r := by rw [if_neg (show ¬ (false = true) by decide)] at H; exact H
    clear H
    have H := H1
    clear H1
    obtain rfl := Option.some.inj H
    go_enter Try.func26, Try.ntmps26
    go_wp2_with (first | ((with_reducible refine gate_callee (f := 53) rfl ?_); refine goesL_ (some 6) rfl rfl Try.func53 (by kernel_rfl) rfl #[.int .i64 a0] rfl (by (try simp only [List.map_toArray, List.map_cons, List.map_nil]); first | done | rfl | (simp only [List.length_drop, List.length_take]; rfl)) ?_; (with_reducible refine (spec_stFloors.calls0 a0 false _ A3.out).mono ?_); rintro e w' ⟨rfl, rfl⟩; refine ⟨_, rfl, ?_⟩))
    go_ret
    exact ⟨by first | rfl | (simp; done) | (simp [*]; done), by repeat (first | exact Drawn0.refl _ | apply Drawn0.step)⟩

/-! behind spec_stGood -/
theorem spec_stGood_is (a : Int) (l : List Int) (hl : l.length ≤ 100000000) (k : Nat) (hk : l.length < k) : spec_stGood.f k a l = some ((decide (0 ≤ a) && decide (a ≤ 100)) && risL 1 a 0 l) := by
  unfold spec_stGood.f spec_stFloors.f
  rw [spec_l1In_is]
  simp only [Option.bind_some]
  by_cases h : (decide (0 ≤ a) && decide (a ≤ 100)) = true
  · rw [if_pos h, h, spec_l1Rising_is l 1 a hl k hk]; rfl
  · rw [if_neg h, Bool.eq_false_iff.mpr h]; rfl

end Go.Proofs.Ytalalaepdjmelaa.PrintB
