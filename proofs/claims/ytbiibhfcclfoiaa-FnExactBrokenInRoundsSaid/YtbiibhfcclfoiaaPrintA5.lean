-- written by this session's own driver (wip/gen.py) with the kit's print and contracts of our own
import Derived.Test.YtbiibhfcclfoiaaPrintA0
import Derived.Test.YtbiibhfcclfoiaaPrintA2
import Derived.Test.YtbiibhfcclfoiaaPrintA3
import Derived.Test.YtbiibhfcclfoiaaPrintA4
namespace Go.Proofs.Ytbiibhfcclfoiaa.PrintA
open Go.RowKit Go.Proofs.YtbiibhfcclfoiaaLib Go.Proofs.YtbiibhfcclfoiaaW.PrintWords Go.Proofs.YtbiibhfcclfoiaaW.PrintLast Go.Proofs.YtbiibhfcclfoiaaW.PrintMore
attribute [local go_sem] max2_int min2_int max_two min_two max_three min_three max_four min_four   -- for this text's walks alone
set_option linter.unusedVariables false
set_option linter.unusedSimpArgs false

/-! behind spec_roOf -/
theorem roOf_l0 (h t e m : Nat) (n : Int) (hn : 0 ≤ n) (hn2 : n ≤ 1000) (he : e ≤ 10) (hm : m ≤ e) : ∀ (r k : Nat), r ≤ m → 
    spec_roOf.l0 (k + r + 1) (e : Int) n (m : Int) (rlist h t e) (lowL (rr h t) e n m r) ((r : Int) - 1) = spec_roOf.l1 k (e : Int) n (m : Int) (rlist h t e) (lowL (rr h t) e n m 0) [] 0 0
  | 0, k, hr => by
    rw [show k + 0 + 1 = k + 1 from rfl, spec_roOf.l0, if_neg (by omega)]
  | x + 1, k, hr => by
    have hst := lowL_step (rr h t) (fun e => (rr_range h t e).1) e n m x (by omega)
    have hse := lowL_set (rr h t) e n m x (by omega)
    have hgx := rlist_get h t e (e - (m - 1 - x)) (by omega)
    have hr1 := rr_range h t (e - (m - 1 - x))
    have hlow : -20000000000 ≤ (lowL (rr h t) e n m (x + 1)).getD (x + 1) 0 ∧ (lowL (rr h t) e n m (x + 1)).getD (x + 1) 0 ≤ 2000 := by
      rw [lowL_get _ _ _ _ _ _ (by omega)]
      have hs := sumR_range (rr h t) (rr_range h t) e (m - 1 - (x + 1) + 1)
      split
      · omega
      · rw [if_pos (Nat.le_refl _)]
        unfold covR
        omega
    have e1 : ((x + 1 : Nat) : Int) - 1 = (x : Int) := by omega
    have e2 : wrap64 ((x : Int) + 1) = ((x + 1 : Nat) : Int) := by unfold wrap64; omega
    have e3 : wrap64 ((e : Int) - wrap64 (wrap64 ((m : Int) - 1) - (x : Int))) = ((e - (m - 1 - x) : Nat) : Int) := by clear e2; unfold wrap64; omega
    have e4 : rd (lowL (rr h t) e n m (x + 1)) ((x + 1 : Nat) : Int) = (lowL (rr h t) e n m (x + 1)).getD (x + 1) 0 := rd_nat' _ _
    have e5 : wrap64 ((x : Int) - 1) = (x : Int) - 1 := by clear e2 e3; unfold wrap64; omega
    have e6 : wrap64 (wrap64 ((lowL (rr h t) e n m (x + 1)).getD (x + 1) 0 - 1) - rr h t (e - (m - 1 - x))) = (lowL (rr h t) e n m (x + 1)).getD (x + 1) 0 - 1 - rr h t (e - (m - 1 - x)) := by
      generalize (lowL (rr h t) e n m (x + 1)).getD (x + 1) 0 = y at hlow
      clear e2 e3 e4 e5 hst
      unfold wrap64; omega
    rw [show k + (x + 1) + 1 = (k + x + 1) + 1 by omega, spec_roOf.l0, e1, if_pos (by clear e2 e3 e4 e5 e6; omega), e2, lowL_len, if_pos (by clear e2 e3 e4 e5 e6; omega), if_pos (by clear e2 e3 e4 e5 e6; omega), e3, rlist_len, if_pos (by clear e2 e3 e4 e5 e6; omega), if_pos (by clear e2 e3 e4 e5 e6; omega), e4, rd_nat', hgx, e6, spec_l1Most_is, Option.bind_some, if_pos (by clear e2 e3 e4 e5 e6; omega), if_pos (by clear e2 e3 e4 e5 e6; omega), e5, Int.toNat_natCast, show ((x + 1 : Nat) : Int) = (x : Int) + 1 by clear e2 e3 e4 e5 e6; omega, hst, hse]
    exact roOf_l0 h t e m n hn hn2 he hm x k (by clear e2 e3 e4 e5 e6; omega)
def ofRes : Option (List Int) → List Int × Bool
  | some l => (l, true)
  | none => ([], false)
theorem roOf_l1 (h t e m : Nat) (n : Int) (hn : 0 ≤ n) (hn2 : n ≤ 1000) (he : e ≤ 10) (hm : m ≤ e) : ∀ (r k i : Nat) (before : Int) (out : List Int), m - i = r → i ≤ m → (i : Int) ≤ before → before ≤ 1000 → (i = m → n - before ≤ rr h t e) → out.length = i → r < k →
    spec_roOf.l1 k (e : Int) n (m : Int) (rlist h t e) (lowL (rr h t) e n m 0) out before (i : Int) = some (ofRes (fOf (rr h t) e n r out before))
  | 0, k, i, before, out, hr, hi, hb, hb2, hend, ho, hk => by
    obtain ⟨k, rfl⟩ : ∃ m, k = m + 1 := ⟨k - 1, by omega⟩
    have h1 := hend (by omega)
    have e1 : wrap64 (n - before) = n - before := by unfold wrap64; omega
    rw [spec_roOf.l1, if_neg (by clear e1; omega), rlist_len, if_pos (by clear e1; omega), if_pos (by clear e1; omega), e1, rd_nat', rlist_get h t e e (Nat.le_refl _), decide_eq_true h1]
    rfl
  | l + 1, k, i, before, out, hr, hi, hb, hb2, hend, ho, hk => by
    obtain ⟨k, rfl⟩ : ∃ m, k = m + 1 := ⟨k - 1, by omega⟩
    have hlow := lowL_get (rr h t) e n m 0 i hi
    rw [if_neg (by omega), if_pos (Nat.zero_le _), show m - 1 - i = l by omega] at hlow
    have hs := sumR_range (rr h t) (rr_range h t) e (l + 1)
    have hx : max (before + 1) ((lowL (rr h t) e n m 0).getD i 0) = max (before + 1) (n - covR (rr h t) e l) := by rw [hlow]; omega
    have hcv : covR (rr h t) e 0 = rr h t e := by simp [covR, sumR]
    have hc0 : 0 ≤ covR (rr h t) e l := by unfold covR; omega
    have hg := rr_range h t (e - l - 1)
    have e1 : wrap64 (before + 1) = before + 1 := by unfold wrap64; omega
    have e2 : wrap64 ((i : Int) + 1) = ((i + 1 : Nat) : Int) := by clear e1; unfold wrap64; omega
    have e3 : wrap64 ((e : Int) - wrap64 ((m : Int) - (i : Int))) = ((e - l - 1 : Nat) : Int) := by clear e1 e2; unfold wrap64; omega
    rw [spec_roOf.l1, if_pos (by clear e1 e2 e3; omega), lowL_len, if_pos (by clear e1 e2 e3; omega), if_pos (by clear e1 e2 e3; omega), e1, rd_nat', spec_l1Most_is, Option.bind_some, hx, e3, rlist_len, if_pos (by clear e1 e2 e3; omega), if_pos (by clear e1 e2 e3; omega), rd_nat', rlist_get h t e _ (by clear e1 e2 e3; omega), fOf_step, e2]
    have hf1 : max (before + 1) (n - covR (rr h t) e l) ≥ before + 1 := by clear e1 e2 e3; omega
    have hf2 : max (before + 1) (n - covR (rr h t) e l) ≤ 1001 := by clear e1 e2 e3; omega
    have hf3 : l = 0 → n - max (before + 1) (n - covR (rr h t) e l) ≤ rr h t e := by
      clear e1 e2 e3
      intro hl
      subst hl
      rw [hcv]; omega
    clear hx hlow e1 e2 e3
    generalize max (before + 1) (n - covR (rr h t) e l) = f at hf1 hf2 hf3
    have e4 : wrap64 (wrap64 (f - before) - 1) = f - before - 1 := by unfold wrap64; omega
    rw [e4]
    clear e4
    by_cases hq : f - before - 1 > rr h t (e - l - 1)
    · rw [if_pos hq, if_pos (Or.inr hq)]; rfl
    · rw [if_neg hq]
      by_cases hq2 : f > n
      · rw [if_pos hq2, if_pos (Or.inl hq2)]; rfl
      · rw [if_neg hq2, if_pos (by omega), if_neg (fun hh => hh.elim hq2 hq)]
        exact roOf_l1 h t e m n hn hn2 he hm l k (i + 1) f (out ++ [f]) (by omega) (by omega) (by omega) (by omega) (fun hh => hf3 (by omega)) (by simp [ho]) (by omega)
theorem roOf_is (h t e m : Nat) (n : Int) (hn : 0 ≤ n) (hn2 : n ≤ 1000) (he : e ≤ 10) (hm : m ≤ e) (h1 : 1 ≤ m) (k : Nat) (hk : 2000 ≤ k) : spec_roOf.f k (e : Int) n (m : Int) (rlist h t e) = some (ofRes (fOf (rr h t) e n m [] 0)) := by
  obtain ⟨k, rfl⟩ : ∃ q, k = q + m + 1 := ⟨k - m - 1, by omega⟩
  have e1 : wrap64 ((m : Int) + 1) = ((m + 1 : Nat) : Int) := by unfold wrap64; omega
  have e2 : wrap64 (n + 1) = n + 1 := by clear e1; unfold wrap64; omega
  have e3 : wrap64 ((m : Int) - 1) = (m : Int) - 1 := by clear e1 e2; unfold wrap64; omega
  have hz : (List.replicate (m + 1) (0 : Int)).set m (n + 1) = lowL (rr h t) e n m m := by
    apply List.ext_getElem
    · simp [lowL]
    · intro i h1 h2
      simp only [List.length_set, List.length_replicate] at h1
      rw [List.getElem_set]
      simp only [lowL, List.getElem_map, List.getElem_range, List.getElem_replicate]
      by_cases hi : m = i
      · subst hi
        rw [if_pos rfl, if_pos rfl]
      · rw [if_neg hi, if_neg (by omega), if_neg (by omega)]
  have a1 := roOf_l0 h t e m n hn hn2 he hm m k (Nat.le_refl _)
  have a2 := roOf_l1 h t e m n hn hn2 he hm m k 0 0 [] (by omega) (by omega) (by omega) (by omega) (by omega) rfl (by omega)
  unfold spec_roOf.f
  rw [e1, if_pos (by clear e1 e2 e3; omega), if_pos (by clear e1 e2 e3; omega), Int.toNat_natCast, Option.bind_some, if_pos (by clear e1 e2 e3; omega), List.length_replicate, if_pos (by clear e1 e2 e3; omega), Int.toNat_natCast, e2, e3, hz, a1]
  exact a2

/-! ### spec_roLess: function 47 -/
def spec_roLess.l0 : Nat → List Int → List Int → List Int → Int → Int → Option (Bool)
  | 0, _, _, _, _, _ => none
  | k + 1, x0, x1, x7, x8, x9 => if x9 < x8 then (if 0 ≤ x9 then (if x9 < (x7.length : Int) then (if x9 = (x1.length : Int) then (some false) else (if x9 < (x1.length : Int) then (if (rd x7 x9) = (rd x1 x9) then (spec_roLess.l0 k x0 x1 x7 x8 (wrap64 (x9 + 1))) else (some (decide ((rd x7 x9) < (rd x1 x9))))) else (none))) else (none)) else (none)) else (some (decide ((x0.length : Int) < (x1.length : Int))))
def spec_roLess.f (k : Nat) (l0 : List Int) (l1 : List Int) : Option (Bool) := spec_roLess.l0 k l0 l1 l0 (l0.length : Int) 0
theorem spec_roLess.mono_l : ∀ k, (∀ y0 y1 y2 y3 y4, LeO (spec_roLess.l0 k y0 y1 y2 y3 y4) (spec_roLess.l0 (k + 1) y0 y1 y2 y3 y4))
  | 0 => fun _ _ _ _ _ r h => by simp [spec_roLess.l0] at h
  | k + 1 => by
    have ih0 := spec_roLess.mono_l k
    · intro y0 y1 y2 y3 y4
      unfold spec_roLess.l0
      repeat' first
      | (with_reducible exact ih0 _ _ _ _ _)
      | (with_reducible exact LeO.refl _)
      | (with_reducible exact LeO.none _)
      | (with_reducible refine LeO.ite ?_ ?_)
      | (with_reducible refine LeO.bind ?_ (fun _ => ?_))
      | exact ih0 _ _ _ _ _
      | exact LeO.none _
      | refine LeO.ite ?_ ?_
      | refine LeO.bind ?_ (fun _ => ?_)
theorem spec_roLess.mono : ∀ a0 a1 k, LeO (spec_roLess.f k a0 a1) (spec_roLess.f (k + 1) a0 a1) := by
  intro a0 a1 k
  have ih0 := spec_roLess.mono_l k
  unfold spec_roLess.f
  repeat' first
      | (with_reducible exact ih0 _ _ _ _ _)
      | (with_reducible exact LeO.refl _)
      | (with_reducible exact LeO.none _)
      | (with_reducible refine LeO.ite ?_ ?_)
      | (with_reducible refine LeO.bind ?_ (fun _ => ?_))
      | exact ih0 _ _ _ _ _
      | exact LeO.none _
      | refine LeO.ite ?_ ?_
      | refine LeO.bind ?_ (fun _ => ?_)
set_option maxHeartbeats 8000000 in
set_option maxRecDepth 100000 in
theorem spec_roLess.calls (k : Nat) (A0 : Option Addr) (c0 : Nat) (l0 : List Int) (A1 : Option Addr) (c1 : Nat) (l1 : List Int) (r : Bool) (w : World) (hr0 : Kd.C (Kd.int .i64) w A0 l0.length l0) (hc0 : l0.length ≤ c0) (hr1 : Kd.C (Kd.int .i64) w A1 l1.length l1) (hc1 : l1.length ≤ c1) (h : spec_roLess.f k l0 l1 = some r) :
    Calls Try.prog 47 #[.slice A0 l0.length c0, .slice A1 l1.length c1] w fun e w' => e = .returned (.bool r) ∧ Drawn0 w w' := by
  have HR0 := Aside0.mk hr0
  have HC0 := Aside0.mk hc0
  clear hr0 hc0
  have HR1 := Aside0.mk hr1
  have HC1 := Aside0.mk hc1
  clear hr1 hc1
  have H : (spec_roLess.l0 k l0 l1 l0 (l0.length : Int) 0) = some r := h
  clear h
  have H' := Aside0.mk H
  clear H
  go_enter Try.func47, Try.ntmps47
  go_wp2
  go_loopg [9] k (fun kq v9 w' => ∃ (x9_1 : Int), v9 = .int .i64 x9_1 ∧ Aside0 (spec_roLess.l0 kq l0 l1 l0 (l0.length : Int) x9_1 = some r) ∧ Aside0 (kq ≤ k) ∧ Drawn0 w w')
  case atStart => exact ⟨(0), (by first | rfl | (simp; done) | (simp [*]; done)), H', ⟨Nat.le_refl _⟩, by repeat (first | exact Drawn0.refl _ | apply Drawn0.step)⟩
  case round =>
    clear H'
    try clear c1
    try clear p2
    obtain ⟨x9_1, rfl, HA, HK1, ⟨m1, rfl⟩⟩ := hrel
    cases gk with
    | zero => exact absurd HA.out (by simp [spec_roLess.l0])
    | succ k1 =>
      have H := HA.out
      clear HA
      simp only [spec_roLess.l0] at H
      by_cases c3 : x9_1 < (l0.length : Int)
      · rw [if_pos c3] at H
        have c3b0 : decide (x9_1 < (l0.length : Int)) = true := decide_eq_true c3
        clear c3
        by_cases c4 : 0 ≤ x9_1
        · rw [if_pos c4] at H
          have c4b0 : decide (0 ≤ x9_1) = true := decide_eq_true c4
          clear c4
          by_cases c5 : x9_1 < (l0.length : Int)
          · rw [if_pos c5] at H
            have c5b0 : decide (x9_1 < (l0.length : Int)) = true := decide_eq_true c5
            clear c5
            by_cases c6 : x9_1 = (l1.length : Int)
            · rw [if_pos c6] at H
              have c6b0 : (x9_1 == (l1.length : Int)) = true := beq_iff_eq.mpr c6
              have c6b1 : (x9_1 != (l1.length : Int)) = false := bne_eq_false_iff_eq.mpr c6
              clear c6
              obtain rfl := Option.some.inj H
              have p143 : 0 ≤ (x9_1 : Int) := of_decide_eq_true (by first | (with_reducible assumption) | assumption)
              have q143 : x9_1 < (l0.length : Int) := of_decide_eq_true (by first | (with_reducible assumption) | assumption)
              obtain ⟨ad143, e143, hx143_0⟩ := Kd.at_int HR0.out x9_1 p143 q143
              cases e143
              replace p143 := eq_true p143
              replace q143 := eq_true q143
              go_wp2
              go_ret
              exact ⟨by first | rfl | (simp; done) | (simp [*]; done), by repeat (first | exact Drawn0.refl _ | apply Drawn0.step)⟩
            · rw [if_neg c6] at H
              have c6b0 : (x9_1 == (l1.length : Int)) = false := beq_eq_false_iff_ne.mpr c6
              have c6b1 : (x9_1 != (l1.length : Int)) = true := bne_iff_ne.mpr c6
              by_cases c7 : x9_1 < (l1.length : Int)
              · rw [if_pos c7] at H
                have c7b0 : decide (x9_1 < (l1.length : Int)) = true := decide_eq_true c7
                clear c7
                by_cases c8 : (rd l0 x9_1) = (rd l1 x9_1)
                · rw [if_pos c8] at H
                  have c8b0 : ((rd l0 x9_1) == (rd l1 x9_1)) = true := beq_iff_eq.mpr c8
                  have c8b1 : ((rd l0 x9_1) != (rd l1 x9_1)) = false := bne_eq_false_iff_eq.mpr c8
                  clear c8
                  have H' := Aside0.mk H
                  clear H
                  have p143 : 0 ≤ (x9_1 : Int) := of_decide_eq_true (by first | (with_reducible assumption) | assumption)
                  have q143 : x9_1 < (l0.length : Int) := of_decide_eq_true (by first | (with_reducible assumption) | assumption)
                  obtain ⟨ad143, e143, hx143_0⟩ := Kd.at_int HR0.out x9_1 p143 q143
                  cases e143
                  replace p143 := eq_true p143
                  replace q143 := eq_true q143
                  have p144 : 0 ≤ (x9_1 : Int) := of_decide_eq_true (by first | (with_reducible assumption) | assumption)
                  have q144 : x9_1 < (l1.length : Int) := of_decide_eq_true (by first | (with_reducible assumption) | assumption)
                  obtain ⟨ad144, e144, hx144_0⟩ := Kd.at_int HR1.out x9_1 p144 q144
                  cases e144
                  replace p144 := eq_true p144
                  replace q144 := eq_true q144
                  go_wp2
                  go_roundg k1
                  case measure => have := HK1.out; omega
                  case rel => exact ⟨(wrap64 (x9_1 + 1)), (by first | rfl | (simp; done) | (simp [*]; done)), H', ⟨by have := HK1.out; omega⟩, by repeat (first | exact Drawn0.refl _ | apply Drawn0.step)⟩
                · rw [if_neg c8] at H
                  have c8b0 : ((rd l0 x9_1) == (rd l1 x9_1)) = false := beq_eq_false_iff_ne.mpr c8
                  have c8b1 : ((rd l0 x9_1) != (rd l1 x9_1)) = true := bne_iff_ne.mpr c8
                  obtain rfl := Option.some.inj H
                  have p143 : 0 ≤ (x9_1 : Int) := of_decide_eq_true (by first | (with_reducible assumption) | assumption)
                  have q143 : x9_1 < (l0.length : Int) := of_decide_eq_true (by first | (with_reducible assumption) | assumption)
                  obtain ⟨ad143, e143, hx143_0⟩ := Kd.at_int HR0.out x9_1 p143 q143
                  cases e143
                  replace p143 := eq_true p143
                  replace q143 := eq_true q143
                  have p144 : 0 ≤ (x9_1 : Int) := of_decide_eq_true (by first | (with_reducible assumption) | assumption)
                  have q144 : x9_1 < (l1.length : Int) := of_decide_eq_true (by first | (with_reducible assumption) | assumption)
                  obtain ⟨ad144, e144, hx144_0⟩ := Kd.at_int HR1.out x9_1 p144 q144
                  cases e144
                  replace p144 := eq_true p144
                  replace q144 := eq_true q144
                  have p145 : 0 ≤ (x9_1 : Int) := of_decide_eq_true (by first | (with_reducible assumption) | assumption)
                  have q145 : x9_1 < (l1.length : Int) := of_decide_eq_true (by first | (with_reducible assumption) | assumption)
                  obtain ⟨ad145, e145, hx145_0⟩ := Kd.at_int HR1.out x9_1 p145 q145
                  obtain rfl : ad144 = ad145 := (by injection e145)
                  replace p145 := eq_true p145
                  replace q145 := eq_true q145
                  go_wp2
                  go_ret
                  exact ⟨by first | rfl | (simp; done) | (simp [*]; done), by repeat (first | exact Drawn0.refl _ | apply Drawn0.step)⟩
              · rw [if_neg c7] at H
                exact absurd H (by simp)
          · rw [if_neg c5] at H
            exact absurd H (by simp)
        · rw [if_neg c4] at H
          exact absurd H (by simp)
      · rw [if_neg c3] at H
        have c3b0 : decide (x9_1 < (l0.length : Int)) = false := decide_eq_false c3
        clear c3
        obtain rfl := Option.some.inj H
        go_wp2
        go_ret
        exact ⟨by first | rfl | (simp; done) | (simp [*]; done), by repeat (first | exact Drawn0.refl _ | apply Drawn0.step)⟩

/-! behind spec_roLess -/
theorem roLess_l0 (a b : List Int) (ha : a.length ≤ 1000) (hb : b.length ≤ 1000) : ∀ (r k i : Nat), a.length - i = r → i ≤ a.length → i ≤ b.length → r < k → spec_roLess.l0 k a b a (a.length : Int) (i : Int) = some (if i = a.length then decide (a.length < b.length) else lexLt (a.drop i) (b.drop i))
  | 0, k, i, hr, hi, hib, hk => by
    obtain ⟨k, rfl⟩ : ∃ m, k = m + 1 := ⟨k - 1, by omega⟩
    obtain rfl : i = a.length := by omega
    rw [spec_roLess.l0, if_neg (by omega), if_pos rfl]
    congr 1
    simp
  | r + 1, k, i, hr, hi, hib, hk => by
    obtain ⟨k, rfl⟩ : ∃ m, k = m + 1 := ⟨k - 1, by omega⟩
    have hlt : i < a.length := by omega
    have hra : rd a (i : Int) = a[i] := by simp [rd, List.getD_eq_getElem?_getD, hlt]
    rw [spec_roLess.l0, if_pos (by omega), if_pos (by omega), if_pos (by omega), if_neg (show ¬ i = a.length by omega), List.drop_eq_getElem_cons hlt]
    by_cases hq : i = b.length
    · subst hq
      rw [if_pos rfl, List.drop_length]
      rfl
    · have hlb : i < b.length := by omega
      have hrb : rd b (i : Int) = b[i] := by simp [rd, List.getD_eq_getElem?_getD, hlb]
      have e2 : wrap64 ((i : Int) + 1) = ((i + 1 : Nat) : Int) := by unfold wrap64; omega
      rw [if_neg (by clear e2 hra hrb; omega), if_pos (by clear e2 hra hrb; omega), hra, hrb, e2, List.drop_eq_getElem_cons hlb, lexLt]
      clear e2 hra hrb
      by_cases hx : a[i] = b[i]
      · rw [if_pos hx, if_pos hx, roLess_l0 a b ha hb r k (i + 1) (by omega) (by omega) (by omega) (by omega)]
        by_cases hy : i + 1 = a.length
        · rw [if_pos hy, hy, List.drop_length]
          congr 1
          cases hd : b.drop a.length with
          | nil =>
            have : (b.drop a.length).length = 0 := by rw [hd]; rfl
            rw [List.length_drop] at this
            rw [lexLt]; simp; omega
          | cons x s =>
            have : (b.drop a.length).length = s.length + 1 := by rw [hd]; rfl
            rw [List.length_drop] at this
            rw [lexLt]; simp; omega
        · rw [if_neg hy]
      · rw [if_neg hx, if_neg hx]
theorem roLess_is (a b : List Int) (ha : a.length ≤ 1000) (hb : b.length ≤ 1000) (k : Nat) (hk : 2000 ≤ k) (hne : a ≠ []) : spec_roLess.f k a b = some (lexLt a b) := by
  have hp := List.length_pos_iff.2 hne
  have := roLess_l0 a b ha hb a.length k 0 (by omega) (by omega) (by omega) (by omega)
  rw [if_neg (by omega)] at this
  unfold spec_roLess.f
  simpa using this

/-! ### spec_roFirst: function 33 -/
def spec_roFirst.l0 : Nat → Int → Int → Int → List Int → List Int → Int → Option (List Int)
  | 0, _, _, _, _, _, _ => none
  | k + 1, x0, x1, x2, x7, x8, x9 => (spec_l1Least.f x0 x1).bind fun t150 => ((spec_l1Least.f t150 x2).bind fun t151 => (if x9 ≤ t151 then ((spec_roOf.f k x0 x2 x9 x7).bind fun bt152 => (if bt152.2 = true then (if (x8.length : Int) = 0 then (spec_roFirst.l0 k x0 x1 x2 x7 bt152.1 (wrap64 (x9 + 1))) else ((spec_roLess.f k bt152.1 x8).bind fun t156 => (if t156 = true then (spec_roFirst.l0 k x0 x1 x2 x7 bt152.1 (wrap64 (x9 + 1))) else (spec_roFirst.l0 k x0 x1 x2 x7 x8 (wrap64 (x9 + 1)))))) else (spec_roFirst.l0 k x0 x1 x2 x7 x8 (wrap64 (x9 + 1))))) else (some x8)))
def spec_roFirst.f (k : Nat) (a0 : Int) (a1 : Int) (a2 : Int) : Option (List Int) := if a2 = 0 then (some ([] : List Int)) else ((spec_roFew.f k a0 a1 a2).bind fun t146 => ((spec_roReach.f k a0 a1 (wrap64 (t146 - 1))).bind fun t147 => (spec_roFirst.l0 k a0 a1 a2 t147 ([] : List Int) 1)))
theorem spec_roFirst.mono_l : ∀ k, (∀ y0 y1 y2 y3 y4 y5, LeO (spec_roFirst.l0 k y0 y1 y2 y3 y4 y5) (spec_roFirst.l0 (k + 1) y0 y1 y2 y3 y4 y5))
  | 0 => fun _ _ _ _ _ _ r h => by simp [spec_roFirst.l0] at h
  | k + 1 => by
    have ih0 := spec_roFirst.mono_l k
    · intro y0 y1 y2 y3 y4 y5
      unfold spec_roFirst.l0
      repeat' first
      | (with_reducible exact ih0 _ _ _ _ _ _)
      | (with_reducible exact spec_roFew.mono _ _ _ _)
      | (with_reducible exact spec_roLess.mono _ _ _)
      | (with_reducible exact spec_roOf.mono _ _ _ _ _)
      | (with_reducible exact spec_roReach.mono _ _ _ _)
      | (with_reducible exact LeO.refl _)
      | (with_reducible exact LeO.none _)
      | (with_reducible refine LeO.ite ?_ ?_)
      | (with_reducible refine LeO.bind ?_ (fun _ => ?_))
      | exact ih0 _ _ _ _ _ _
      | exact spec_roFew.mono _ _ _ _
      | exact spec_roLess.mono _ _ _
      | exact spec_roOf.mono _ _ _ _ _
      | exact spec_roReach.mono _ _ _ _
      | exact LeO.none _
      | refine LeO.ite ?_ ?_
      | refine LeO.bind ?_ (fun _ => ?_)
theorem spec_roFirst.mono : ∀ a0 a1 a2 k, LeO (spec_roFirst.f k a0 a1 a2) (spec_roFirst.f (k + 1) a0 a1 a2) := by
  intro a0 a1 a2 k
  have ih0 := spec_roFirst.mono_l k
  unfold spec_roFirst.f
  repeat' first
      | (with_reducible exact ih0 _ _ _ _ _ _)
      | (with_reducible exact spec_roFew.mono _ _ _ _)
      | (with_reducible exact spec_roLess.mono _ _ _)
      | (with_reducible exact spec_roOf.mono _ _ _ _ _)
      | (with_reducible exact spec_roReach.mono _ _ _ _)
      | (with_reducible exact LeO.refl _)
      | (with_reducible exact LeO.none _)
      | (with_reducible refine LeO.ite ?_ ?_)
      | (with_reducible refine LeO.bind ?_ (fun _ => ?_))
      | exact ih0 _ _ _ _ _ _
      | exact spec_roFew.mono _ _ _ _
      | exact spec_roLess.mono _ _ _
      | exact spec_roOf.mono _ _ _ _ _
      | exact spec_roReach.mono _ _ _ _
      | exact LeO.none _
      | refine LeO.ite ?_ ?_
      | refine LeO.bind ?_ (fun _ => ?_)
set_option maxHeartbeats 8000000 in
set_option maxRecDepth 100000 in
theorem spec_roFirst.calls (k : Nat) (a0 : Int) (a1 : Int) (a2 : Int) (r : List Int) (w : World) (h : spec_roFirst.f k a0 a1 a2 = some r) :
    Calls Try.prog 33 #[.int .i64 a0, .int .i64 a1, .int .i64 a2] w fun e w' => ∃ v0_ : Value, e = .returned (v0_) ∧ Kd.R (Kd.int .i64) 3 w' w.heap.size (fun _ => True) v0_ r ∧ Below w.heap.size w w' := by
  have HB := Aside0.mk (Below.refl w.heap.size w)
  have H : (if a2 = 0 then (some ([] : List Int)) else ((spec_roFew.f k a0 a1 a2).bind fun t146 => ((spec_roReach.f k a0 a1 (wrap64 (t146 - 1))).bind fun t147 => (spec_roFirst.l0 k a0 a1 a2 t147 ([] : List Int) 1)))) = some r := h
  clear h
  by_cases c4 : a2 = 0
  · rw [if_pos c4] at H
    have c4b0 : (a2 == 0) = true := beq_iff_eq.mpr c4
    have c4b1 : (a2 != 0) = false := bne_eq_false_iff_eq.mpr c4
    clear c4
    obtain rfl := Option.some.inj H
    go_enter Try.func33, Try.ntmps33
    go_wp2
    go_ret
    exact ⟨_, by first | rfl | (simp [errW_none, errW_some] <;> rfl) | (simp [*, errW_none, errW_some] <;> rfl), by first | exact Kd.R_nil _ _ _ _ _ | exact Kd.N_nil _ _ _ _ _ | exact Kd.V_nil _ _ _ _ _ | exact Kd.Q_nil _ _ _ _ _ | exact Kd.S_nil _ _ _ _ _, by repeat (first | (with_reducible first | exact HB.out | apply below_alloc | apply pw_below_drewN | apply below_drew1) | exact HB.out)⟩
  · rw [if_neg c4] at H
    have c4b0 : (a2 == 0) = false := beq_eq_false_iff_ne.mpr c4
    have c4b1 : (a2 != 0) = true := bne_iff_ne.mpr c4
    replace H := Option.bind_eq_some_iff.mp H
    obtain ⟨t146, A50, H⟩ := H
    replace H : ((spec_roReach.f k a0 a1 (wrap64 (t146 - 1))).bind fun t147 => (spec_roFirst.l0 k a0 a1 a2 t147 ([] : List Int) 1)) = some r := H
    have A5 := Aside0.mk A50
    clear A50
    replace H := Option.bind_eq_some_iff.mp H
    obtain ⟨t147, A60, H⟩ := H
    replace H : (spec_roFirst.l0 k a0 a1 a2 t147 ([] : List Int) 1) = some r := H
    have A6 := Aside0.mk A60
    clear A60
    have H' := Aside0.mk H
    clear H
    go_enter Try.func33, Try.ntmps33
    go_wp2_with (first | ((with_reducible refine gate_callee (f := 45) rfl ?_); refine goesL_ (some 19) rfl rfl Try.func45 (by kernel_rfl) rfl #[.int .i64 a0, .int .i64 a1, .int .i64 a2] rfl (by (try simp only [List.map_toArray, List.map_cons, List.map_nil]); first | done | rfl | (simp only [List.length_drop, List.length_take]; rfl)) ?_; (with_reducible refine (spec_roFew.calls k a0 a1 a2 t146 _ A5.out).mono ?_); rintro e w7 ⟨rfl, hb⟩; refine ⟨_, rfl, ?_⟩; have n0_ := Aside0.mk (below_step (by repeat (first | (with_reducible first | exact HB.out | apply below_alloc | apply pw_below_drewN | apply below_drew1) | exact HB.out)) hb); clear HB; have HB := n0_; clear n0_; (try clear hb); (try clear hb2); (try clear hk); (try clear hi)) | ((with_reducible refine gate_callee (f := 44) rfl ?_); refine goesL_ (some 21) rfl rfl Try.func44 (by kernel_rfl) rfl #[.int .i64 a0, .int .i64 a1, .int .i64 (wrap64 (t146 - 1))] rfl (by (try simp only [List.map_toArray, List.map_cons, List.map_nil]); first | done | rfl | (simp only [List.length_drop, List.length_take]; rfl)) ?_; (with_reducible refine (spec_roReach.calls k a0 a1 (wrap64 (t146 - 1)) t147 _ A6.out).mono ?_); rintro e w8 ⟨v148, rfl, ho0, hb⟩; refine ⟨_, rfl, ?_⟩; have n0_ := Aside0.mk (Kd.R_lower ho0 (below_size (by repeat (first | (with_reducible first | exact HB.out | apply below_alloc | apply pw_below_drewN | apply below_drew1) | exact HB.out)))); have n1_ := Aside0.mk (below_step (by repeat (first | (with_reducible first | exact HB.out | apply below_alloc | apply pw_below_drewN | apply below_drew1) | exact HB.out)) hb); clear HB; have HO149 := n0_; have HB := n1_; clear n0_ n1_; (try clear hb); (try clear hb2); (try clear hk); (try clear hi); (try clear ho0)))
    go_loopg [8, 9] k (fun kq v8 v9 w' => ∃ (x8_1 : List Int) (x9_1 : Int), v9 = .int .i64 x9_1 ∧ Aside0 (spec_roFirst.l0 kq a0 a1 a2 t147 x8_1 x9_1 = some r) ∧ Aside0 (kq ≤ k) ∧ Aside0 (Kd.R (Kd.int .i64) 3 w' w.heap.size (fun k_ => some k_ ≠ (v8 : Value).ownBlock) v148 t147) ∧ Aside0 (Kd.R (Kd.int .i64) 3 w' w.heap.size (fun k_ => some k_ ≠ (v148 : Value).ownBlock) v8 x8_1) ∧ Aside0 (Below w.heap.size w w'))
    case atStart => exact ⟨(([] : List Int)), (1), (by first | rfl | (simp; done) | (simp [*]; done)), H', ⟨Nat.le_refl _⟩, ⟨by (with_reducible repeat (first | apply Kd.R_alloc | apply Kd.R_drewN | apply Kd.R_drew)); exact Kd.R_mono HO149.out (fun _ hk => (by simp [Value.ownBlock]))⟩, ⟨by first | exact Kd.R_nil _ _ _ _ _ | exact Kd.N_nil _ _ _ _ _ | exact Kd.V_nil _ _ _ _ _ | exact Kd.Q_nil _ _ _ _ _ | exact Kd.S_nil _ _ _ _ _⟩, ⟨by repeat (first | (with_reducible first | exact HB.out | apply below_alloc | apply pw_below_drewN | apply below_drew1) | exact HB.out)⟩⟩
    case round =>
      clear H'
      try clear p2
      try clear c3
      try clear c4
      try clear c4b0
      try clear c4b1
      try clear p6
      obtain ⟨x8_1, x9_1, rfl, HA, HK1, HO_7, HO_8, HB⟩ := hrel
      cases gk with
      | zero => exact absurd HA.out (by simp [spec_roFirst.l0])
      | succ k1 =>
        have H := HA.out
        clear HA
        simp only [spec_roFirst.l0] at H
        replace H := Option.bind_eq_some_iff.mp H
        obtain ⟨t150, A90, H⟩ := H
        replace H : ((spec_l1Least.f t150 a2).bind fun t151 => (if x9_1 ≤ t151 then ((spec_roOf.f k1 a0 a2 x9_1 t147).bind fun bt152 => (if bt152.2 = true then (if (x8_1.length : Int) = 0 then (spec_roFirst.l0 k1 a0 a1 a2 t147 bt152.1 (wrap64 (x9_1 + 1))) else ((spec_roLess.f k1 bt152.1 x8_1).bind fun t156 => (if t156 = true then (spec_roFirst.l0 k1 a0 a1 a2 t147 bt152.1 (wrap64 (x9_1 + 1))) else (spec_roFirst.l0 k1 a0 a1 a2 t147 x8_1 (wrap64 (x9_1 + 1)))))) else (spec_roFirst.l0 k1 a0 a1 a2 t147 x8_1 (wrap64 (x9_1 + 1))))) else (some x8_1))) = some r := H
        have A9 := Aside0.mk A90
        clear A90
        replace H := Option.bind_eq_some_iff.mp H
        obtain ⟨t151, A100, H⟩ := H
        replace H : (if x9_1 ≤ t151 then ((spec_roOf.f k1 a0 a2 x9_1 t147).bind fun bt152 => (if bt152.2 = true then (if (x8_1.length : Int) = 0 then (spec_roFirst.l0 k1 a0 a1 a2 t147 bt152.1 (wrap64 (x9_1 + 1))) else ((spec_roLess.f k1 bt152.1 x8_1).bind fun t156 => (if t156 = true then (spec_roFirst.l0 k1 a0 a1 a2 t147 bt152.1 (wrap64 (x9_1 + 1))) else (spec_roFirst.l0 k1 a0 a1 a2 t147 x8_1 (wrap64 (x9_1 + 1)))))) else (spec_roFirst.l0 k1 a0 a1 a2 t147 x8_1 (wrap64 (x9_1 + 1))))) else (some x8_1)) = some r := H
        have A10 := Aside0.mk A100
        clear A100
        by_cases c11 : x9_1 ≤ t151
        · rw [if_pos c11] at H
          have c11b0 : decide (x9_1 ≤ t151) = true := decide_eq_true c11
          clear c11
          replace H := Option.bind_eq_some_iff.mp H
          obtain ⟨⟨t152, t153⟩, A120, H⟩ := H
          replace H : (if t153 = true then (if (x8_1.length : Int) = 0 then (spec_roFirst.l0 k1 a0 a1 a2 t147 t152 (wrap64 (x9_1 + 1))) else ((spec_roLess.f k1 t152 x8_1).bind fun t156 => (if t156 = true then (spec_roFirst.l0 k1 a0 a1 a2 t147 t152 (wrap64 (x9_1 + 1))) else (spec_roFirst.l0 k1 a0 a1 a2 t147 x8_1 (wrap64 (x9_1 + 1)))))) else (spec_roFirst.l0 k1 a0 a1 a2 t147 x8_1 (wrap64 (x9_1 + 1)))) = some r := H
          have A12 := Aside0.mk A120
          clear A120
          by_cases c13 : t153 = true
          · subst c13
            have H1 : (if (x8_1.length : Int) = 0 then (spec_roFirst.l0 k1 a0 a1 a2 t147 t152 (wrap64 (x9_1 + 1))) else ((spec_roLess.f k1 t152 x8_1).bind fun t156 => (if t156 = true then (spec_roFirst.l0 k1 a0 a1 a2 t147 t152 (wrap64 (x9_1 + 1))) else (spec_roFirst.l0 k1 a0 a1 a2 t147 x8_1 (wrap64 (x9_1 + 1)))))) = some r := by rw [if_pos rfl] at H; exact H
            clear H
            have H := H1
            clear H1
            by_cases c14 : (x8_1.length : Int) = 0
            · rw [if_pos c14] at H
              have c14b0 : ((x8_1.length : Int) == 0) = true := beq_iff_eq.mpr c14
              have c14b1 : ((x8_1.length : Int) != 0) = false := bne_eq_false_iff_eq.mpr c14
              clear c14
              have H' := Aside0.mk H
              clear H
              go_wp2_with (first | ((with_reducible refine gate_callee (f := 34) rfl ?_); refine goesL_ (some 25) rfl rfl Try.func34 (by kernel_rfl) rfl #[.int .i64 a0, .int .i64 a1] rfl (by (try simp only [List.map_toArray, List.map_cons, List.map_nil]); first | done | rfl | (simp only [List.length_drop, List.length_take]; rfl)) ?_; (with_reducible refine (spec_l1Least.calls0 a0 a1 t150 _ A9.out).mono ?_); rintro e w' ⟨rfl, rfl⟩; refine ⟨_, rfl, ?_⟩) | ((with_reducible refine gate_callee (f := 34) rfl ?_); refine goesL_ (some 27) rfl rfl Try.func34 (by kernel_rfl) rfl #[.int .i64 t150, .int .i64 a2] rfl (by (try simp only [List.map_toArray, List.map_cons, List.map_nil]); first | done | rfl | (simp only [List.length_drop, List.length_take]; rfl)) ?_; (with_reducible refine (spec_l1Least.calls0 t150 a2 t151 _ A10.out).mono ?_); rintro e w' ⟨rfl, rfl⟩; refine ⟨_, rfl, ?_⟩; obtain ⟨Ao15, co15, eo15⟩ := Kd.R_slice HO_7.out; subst eo15) | ((with_reducible refine gate_callee (f := 46) rfl ?_); refine goesL_ (some 36) rfl rfl Try.func46 (by kernel_rfl) rfl #[.int .i64 a0, .int .i64 a2, .int .i64 x9_1, .slice Ao15 t147.length co15] rfl (by (try simp only [List.map_toArray, List.map_cons, List.map_nil]); first | done | rfl | (simp only [List.length_drop, List.length_take]; rfl)) ?_; (with_reducible refine (spec_roOf.calls k1 a0 a2 x9_1 _ _ t147 t152 true _ ?side1 ?side2 A12.out).mono ?_); (case side1 => repeat (first | exact (Kd.R_reads' HO_7.out).2.2 | (with_reducible refine Kd.C_alloc ?_ _) | (with_reducible refine Kd.C_drewN ?_ _) | (with_reducible refine Kd.C_drew ?_))); (case side2 => exact (Kd.R_reads' HO_7.out).2.1); rintro e w16 ⟨v154, rfl, ho0, hb⟩; refine ⟨_, rfl, ?_⟩; have n0_ := Aside0.mk (Kd.R_elder' (by (with_reducible repeat (first | apply Kd.R_alloc | apply Kd.R_drewN | apply Kd.R_drew)); exact HO_7.out) (Kd.R_base ho0) hb); have n1_ := Aside0.mk (Kd.R_elder' (by (with_reducible repeat (first | apply Kd.R_alloc | apply Kd.R_drewN | apply Kd.R_drew)); exact HO_8.out) (Kd.R_base ho0) hb); have n2_ := Aside0.mk (Kd.R_lower (Kd.R_new' (Kd.R_new' ho0 (Kd.R_lt (by (with_reducible repeat (first | apply Kd.R_alloc | apply Kd.R_drewN | apply Kd.R_drew)); exact HO_7.out))) (Kd.R_lt (by (with_reducible repeat (first | apply Kd.R_alloc | apply Kd.R_drewN | apply Kd.R_drew)); exact HO_8.out))) (below_size (by repeat (first | (with_reducible first | exact HB.out | apply below_alloc | apply pw_below_drewN | apply below_drew1) | exact HB.out)))); have n3_ := Aside0.mk (below_step (by repeat (first | (with_reducible first | exact HB.out | apply below_alloc | apply pw_below_drewN | apply below_drew1) | exact HB.out)) hb); clear HO_7; clear HO_8; clear HB; have HO_7 := n0_; have HO_8 := n1_; have HO155 := n2_; have HB := n3_; clear n0_ n1_ n2_ n3_; (try clear hb); (try clear hb2); (try clear hk); (try clear hi); (try clear ho0); obtain ⟨Ao17, co17, eo17⟩ := Kd.R_slice HO_8.out; subst eo17))
              go_roundg k1
              case measure => have := HK1.out; omega
              case rel => exact ⟨(t152), (wrap64 (x9_1 + 1)), (by first | rfl | (simp; done) | (simp [*]; done)), H', ⟨by have := HK1.out; omega⟩, ⟨by (with_reducible repeat (first | apply Kd.R_alloc | apply Kd.R_drewN | apply Kd.R_drew)); exact Kd.R_mono HO_7.out (fun _ hk => hk.2)⟩, ⟨by (with_reducible repeat (first | apply Kd.R_alloc | apply Kd.R_drewN | apply Kd.R_drew)); exact Kd.R_mono HO155.out (fun _ hk => hk.1.2)⟩, ⟨by repeat (first | (with_reducible first | exact HB.out | apply below_alloc | apply pw_below_drewN | apply below_drew1) | exact HB.out)⟩⟩
            · rw [if_neg c14] at H
              have c14b0 : ((x8_1.length : Int) == 0) = false := beq_eq_false_iff_ne.mpr c14
              have c14b1 : ((x8_1.length : Int) != 0) = true := bne_iff_ne.mpr c14
              have c14b2 : ¬ (x8_1 = []) := fun h_ => c14 (by rw [h_]; rfl)
              replace H := Option.bind_eq_some_iff.mp H
              obtain ⟨t156, A180, H⟩ := H
              replace H : (if t156 = true then (spec_roFirst.l0 k1 a0 a1 a2 t147 t152 (wrap64 (x9_1 + 1))) else (spec_roFirst.l0 k1 a0 a1 a2 t147 x8_1 (wrap64 (x9_1 + 1)))) = some r := H
              have A18 := Aside0.mk A180
              clear A180
              by_cases c19 : t156 = true
              · subst c19
                have H1 : (spec_roFirst.l0 k1 a0 a1 a2 t147 t152 (wrap64 (x9_1 + 1))) = some r := by rw [if_pos rfl] at H; exact H
                clear H
                have H := H1
                clear H1
                have H' := Aside0.mk H
                clear H
                go_wp2_with (first | ((with_reducible refine gate_callee (f := 34) rfl ?_); refine goesL_ (some 25) rfl rfl Try.func34 (by kernel_rfl) rfl #[.int .i64 a0, .int .i64 a1] rfl (by (try simp only [List.map_toArray, List.map_cons, List.map_nil]); first | done | rfl | (simp only [List.length_drop, List.length_take]; rfl)) ?_; (with_reducible refine (spec_l1Least.calls0 a0 a1 t150 _ A9.out).mono ?_); rintro e w' ⟨rfl, rfl⟩; refine ⟨_, rfl, ?_⟩) | ((with_reducible refine gate_callee (f := 34) rfl ?_); refine goesL_ (some 27) rfl rfl Try.func34 (by kernel_rfl) rfl #[.int .i64 t150, .int .i64 a2] rfl (by (try simp only [List.map_toArray, List.map_cons, List.map_nil]); first | done | rfl | (simp only [List.length_drop, List.length_take]; rfl)) ?_; (with_reducible refine (spec_l1Least.calls0 t150 a2 t151 _ A10.out).mono ?_); rintro e w' ⟨rfl, rfl⟩; refine ⟨_, rfl, ?_⟩; obtain ⟨Ao20, co20, eo20⟩ := Kd.R_slice HO_7.out; subst eo20) | ((with_reducible refine gate_callee (f := 46) rfl ?_); refine goesL_ (some 36) rfl rfl Try.func46 (by kernel_rfl) rfl #[.int .i64 a0, .int .i64 a2, .int .i64 x9_1, .slice Ao20 t147.length co20] rfl (by (try simp only [List.map_toArray, List.map_cons, List.map_nil]); first | done | rfl | (simp only [List.length_drop, List.length_take]; rfl)) ?_; (with_reducible refine (spec_roOf.calls k1 a0 a2 x9_1 _ _ t147 t152 true _ ?side1 ?side2 A12.out).mono ?_); (case side1 => repeat (first | exact (Kd.R_reads' HO_7.out).2.2 | (with_reducible refine Kd.C_alloc ?_ _) | (with_reducible refine Kd.C_drewN ?_ _) | (with_reducible refine Kd.C_drew ?_))); (case side2 => exact (Kd.R_reads' HO_7.out).2.1); rintro e w21 ⟨v154, rfl, ho0, hb⟩; refine ⟨_, rfl, ?_⟩; have n0_ := Aside0.mk (Kd.R_elder' (by (with_reducible repeat (first | apply Kd.R_alloc | apply Kd.R_drewN | apply Kd.R_drew)); exact HO_7.out) (Kd.R_base ho0) hb); have n1_ := Aside0.mk (Kd.R_elder' (by (with_reducible repeat (first | apply Kd.R_alloc | apply Kd.R_drewN | apply Kd.R_drew)); exact HO_8.out) (Kd.R_base ho0) hb); have n2_ := Aside0.mk (Kd.R_lower (Kd.R_new' (Kd.R_new' ho0 (Kd.R_lt (by (with_reducible repeat (first | apply Kd.R_alloc | apply Kd.R_drewN | apply Kd.R_drew)); exact HO_7.out))) (Kd.R_lt (by (with_reducible repeat (first | apply Kd.R_alloc | apply Kd.R_drewN | apply Kd.R_drew)); exact HO_8.out))) (below_size (by repeat (first | (with_reducible first | exact HB.out | apply below_alloc | apply pw_below_drewN | apply below_drew1) | exact HB.out)))); have n3_ := Aside0.mk (below_step (by repeat (first | (with_reducible first | exact HB.out | apply below_alloc | apply pw_below_drewN | apply below_drew1) | exact HB.out)) hb); clear HO_7; clear HO_8; clear HB; have HO_7 := n0_; have HO_8 := n1_; have HO155 := n2_; have HB := n3_; clear n0_ n1_ n2_ n3_; (try clear hb); (try clear hb2); (try clear hk); (try clear hi); (try clear ho0); obtain ⟨Ao22, co22, eo22⟩ := Kd.R_slice HO_8.out; subst eo22; obtain ⟨Ao23, co23, eo23⟩ := Kd.R_slice HO155.out; subst eo23) | (go_at_call 47; (with_reducible refine (spec_roLess.calls k1 _ _ t152 _ _ x8_1 true _ ?side1 ?side2 ?side3 ?side4 A18.out).mono ?_); (case side1 => repeat (first | exact (Kd.R_reads' HO155.out).2.2 | (with_reducible refine Kd.C_alloc ?_ _) | (with_reducible refine Kd.C_drewN ?_ _) | (with_reducible refine Kd.C_drew ?_))); (case side2 => exact (Kd.R_reads' HO155.out).2.1); (case side3 => repeat (first | exact (Kd.R_reads' HO_8.out).2.2 | (with_reducible refine Kd.C_alloc ?_ _) | (with_reducible refine Kd.C_drewN ?_ _) | (with_reducible refine Kd.C_drew ?_))); (case side4 => exact (Kd.R_reads' HO_8.out).2.1); rintro e w' ⟨rfl, ⟨nd, rfl⟩⟩))
                go_roundg k1
                case measure => have := HK1.out; omega
                case rel => exact ⟨(t152), (wrap64 (x9_1 + 1)), (by first | rfl | (simp; done) | (simp [*]; done)), H', ⟨by have := HK1.out; omega⟩, ⟨by (with_reducible repeat (first | apply Kd.R_alloc | apply Kd.R_drewN | apply Kd.R_drew)); exact Kd.R_mono HO_7.out (fun _ hk => hk.2)⟩, ⟨by (with_reducible repeat (first | apply Kd.R_alloc | apply Kd.R_drewN | apply Kd.R_drew)); exact Kd.R_mono HO155.out (fun _ hk => hk.1.2)⟩, ⟨by repeat (first | (with_reducible first | exact HB.out | apply below_alloc | apply pw_below_drewN | apply below_drew1) | exact HB.out)⟩⟩
              · replace c19 := Bool.eq_false_iff.mpr c19
                subst c19
                have H1 : (spec_roFirst.l0 k1 a0 a1 a2 t147 x8_1 (wrap64 (x9_1 + 1))) = some r := by rw [if_neg (show ¬ (false = true) by decide)] at H; exact H
                clear H
                have H := H1
                clear H1
                have H' := Aside0.mk H
                clear H
                go_wp2_with (first | ((with_reducible refine gate_callee (f := 34) rfl ?_); refine goesL_ (some 25) rfl rfl Try.func34 (by kernel_rfl) rfl #[.int .i64 a0, .int .i64 a1] rfl (by (try simp only [List.map_toArray, List.map_cons, List.map_nil]); first | done | rfl | (simp only [List.length_drop, List.length_take]; rfl)) ?_; (with_reducible refine (spec_l1Least.calls0 a0 a1 t150 _ A9.out).mono ?_); rintro e w' ⟨rfl, rfl⟩; refine ⟨_, rfl, ?_⟩) | ((with_reducible refine gate_callee (f := 34) rfl ?_); refine goesL_ (some 27) rfl rfl Try.func34 (by kernel_rfl) rfl #[.int .i64 t150, .int .i64 a2] rfl (by (try simp only [List.map_toArray, List.map_cons, List.map_nil]); first | done | rfl | (simp only [List.length_drop, List.length_take]; rfl)) ?_; (with_reducible refine (spec_l1Least.calls0 t150 a2 t151 _ A10.out).mono ?_); rintro e w' ⟨rfl, rfl⟩; refine ⟨_, rfl, ?_⟩; obtain ⟨Ao24, co24, eo24⟩ := Kd.R_slice HO_7.out; subst eo24) | ((with_reducible refine gate_callee (f := 46) rfl ?_); refine goesL_ (some 36) rfl rfl Try.func46 (by kernel_rfl) rfl #[.int .i64 a0, .int .i64 a2, .int .i64 x9_1, .slice Ao24 t147.length co24] rfl (by (try simp only [List.map_toArray, List.map_cons, List.map_nil]); first | done | rfl | (simp only [List.length_drop, List.length_take]; rfl)) ?_; (with_reducible refine (spec_roOf.calls k1 a0 a2 x9_1 _ _ t147 t152 true _ ?side1 ?side2 A12.out).mono ?_); (case side1 => repeat (first | exact (Kd.R_reads' HO_7.out).2.2 | (with_reducible refine Kd.C_alloc ?_ _) | (with_reducible refine Kd.C_drewN ?_ _) | (with_reducible refine Kd.C_drew ?_))); (case side2 => exact (Kd.R_reads' HO_7.out).2.1); rintro e w25 ⟨v154, rfl, ho0, hb⟩; refine ⟨_, rfl, ?_⟩; have n0_ := Aside0.mk (Kd.R_elder' (by (with_reducible repeat (first | apply Kd.R_alloc | apply Kd.R_drewN | apply Kd.R_drew)); exact HO_7.out) (Kd.R_base ho0) hb); have n1_ := Aside0.mk (Kd.R_elder' (by (with_reducible repeat (first | apply Kd.R_alloc | apply Kd.R_drewN | apply Kd.R_drew)); exact HO_8.out) (Kd.R_base ho0) hb); have n2_ := Aside0.mk (Kd.R_lower (Kd.R_new' (Kd.R_new' ho0 (Kd.R_lt (by (with_reducible repeat (first | apply Kd.R_alloc | apply Kd.R_drewN | apply Kd.R_drew)); exact HO_7.out))) (Kd.R_lt (by (with_reducible repeat (first | apply Kd.R_alloc | apply Kd.R_drewN | apply Kd.R_drew)); exact HO_8.out))) (below_size (by repeat (first | (with_reducible first | exact HB.out | apply below_alloc | apply pw_below_drewN | apply below_drew1) | exact HB.out)))); have n3_ := Aside0.mk (below_step (by repeat (first | (with_reducible first | exact HB.out | apply below_alloc | apply pw_below_drewN | apply below_drew1) | exact HB.out)) hb); clear HO_7; clear HO_8; clear HB; have HO_7 := n0_; have HO_8 := n1_; have HO155 := n2_; have HB := n3_; clear n0_ n1_ n2_ n3_; (try clear hb); (try clear hb2); (try clear hk); (try clear hi); (try clear ho0); obtain ⟨Ao26, co26, eo26⟩ := Kd.R_slice HO_8.out; subst eo26; obtain ⟨Ao27, co27, eo27⟩ := Kd.R_slice HO155.out; subst eo27) | (go_at_call 47; (with_reducible refine (spec_roLess.calls k1 _ _ t152 _ _ x8_1 false _ ?side1 ?side2 ?side3 ?side4 A18.out).mono ?_); (case side1 => repeat (first | exact (Kd.R_reads' HO155.out).2.2 | (with_reducible refine Kd.C_alloc ?_ _) | (with_reducible refine Kd.C_drewN ?_ _) | (with_reducible refine Kd.C_drew ?_))); (case side2 => exact (Kd.R_reads' HO155.out).2.1); (case side3 => repeat (first | exact (Kd.R_reads' HO_8.out).2.2 | (with_reducible refine Kd.C_alloc ?_ _) | (with_reducible refine Kd.C_drewN ?_ _) | (with_reducible refine Kd.C_drew ?_))); (case side4 => exact (Kd.R_reads' HO_8.out).2.1); rintro e w' ⟨rfl, ⟨nd, rfl⟩⟩))
                go_roundg k1
                case measure => have := HK1.out; omega
                case rel => exact ⟨(x8_1), (wrap64 (x9_1 + 1)), (by first | rfl | (simp; done) | (simp [*]; done)), H', ⟨by have := HK1.out; omega⟩, ⟨by (with_reducible repeat (first | apply Kd.R_alloc | apply Kd.R_drewN | apply Kd.R_drew)); exact Kd.R_mono HO_7.out (fun _ hk => hk.1)⟩, ⟨by (with_reducible repeat (first | apply Kd.R_alloc | apply Kd.R_drewN | apply Kd.R_drew)); exact Kd.R_mono HO_8.out (fun _ hk => hk.1)⟩, ⟨by repeat (first | (with_reducible first | exact HB.out | apply below_alloc | apply pw_below_drewN | apply below_drew1) | exact HB.out)⟩⟩
          · replace c13 := Bool.eq_false_iff.mpr c13
            subst c13
            have H1 : (spec_roFirst.l0 k1 a0 a1 a2 t147 x8_1 (wrap64 (x9_1 + 1))) = some r := by rw [if_neg (show ¬ (false = true) by decide)] at H; exact H
            clear H
            have H := H1
            clear H1
            have H' := Aside0.mk H
            clear H
            go_wp2_with (first | ((with_reducible refine gate_callee (f := 34) rfl ?_); refine goesL_ (some 25) rfl rfl Try.func34 (by kernel_rfl) rfl #[.int .i64 a0, .int .i64 a1] rfl (by (try simp only [List.map_toArray, List.map_cons, List.map_nil]); first | done | rfl | (simp only [List.length_drop, List.length_take]; rfl)) ?_; (with_reducible refine (spec_l1Least.calls0 a0 a1 t150 _ A9.out).mono ?_); rintro e w' ⟨rfl, rfl⟩; refine ⟨_, rfl, ?_⟩) | ((with_reducible refine gate_callee (f := 34) rfl ?_); refine goesL_ (some 27) rfl rfl Try.func34 (by kernel_rfl) rfl #[.int .i64 t150, .int .i64 a2] rfl (by (try simp only [List.map_toArray, List.map_cons, List.map_nil]); first | done | rfl | (simp only [List.length_drop, List.length_take]; rfl)) ?_; (with_reducible refine (spec_l1Least.calls0 t150 a2 t151 _ A10.out).mono ?_); rintro e w' ⟨rfl, rfl⟩; refine ⟨_, rfl, ?_⟩; obtain ⟨Ao28, co28, eo28⟩ := Kd.R_slice HO_7.out; subst eo28) | ((with_reducible refine gate_callee (f := 46) rfl ?_); refine goesL_ (some 36) rfl rfl Try.func46 (by kernel_rfl) rfl #[.int .i64 a0, .int .i64 a2, .int .i64 x9_1, .slice Ao28 t147.length co28] rfl (by (try simp only [List.map_toArray, List.map_cons, List.map_nil]); first | done | rfl | (simp only [List.length_drop, List.length_take]; rfl)) ?_; (with_reducible refine (spec_roOf.calls k1 a0 a2 x9_1 _ _ t147 t152 false _ ?side1 ?side2 A12.out).mono ?_); (case side1 => repeat (first | exact (Kd.R_reads' HO_7.out).2.2 | (with_reducible refine Kd.C_alloc ?_ _) | (with_reducible refine Kd.C_drewN ?_ _) | (with_reducible refine Kd.C_drew ?_))); (case side2 => exact (Kd.R_reads' HO_7.out).2.1); rintro e w29 ⟨v154, rfl, ho0, hb⟩; refine ⟨_, rfl, ?_⟩; have n0_ := Aside0.mk (Kd.R_elder' (by (with_reducible repeat (first | apply Kd.R_alloc | apply Kd.R_drewN | apply Kd.R_drew)); exact HO_7.out) (Kd.R_base ho0) hb); have n1_ := Aside0.mk (Kd.R_elder' (by (with_reducible repeat (first | apply Kd.R_alloc | apply Kd.R_drewN | apply Kd.R_drew)); exact HO_8.out) (Kd.R_base ho0) hb); have n2_ := Aside0.mk (Kd.R_lower (Kd.R_new' (Kd.R_new' ho0 (Kd.R_lt (by (with_reducible repeat (first | apply Kd.R_alloc | apply Kd.R_drewN | apply Kd.R_drew)); exact HO_7.out))) (Kd.R_lt (by (with_reducible repeat (first | apply Kd.R_alloc | apply Kd.R_drewN | apply Kd.R_drew)); exact HO_8.out))) (below_size (by repeat (first | (with_reducible first | exact HB.out | apply below_alloc | apply pw_below_drewN | apply below_drew1) | exact HB.out)))); have n3_ := Aside0.mk (below_step (by repeat (first | (with_reducible first | exact HB.out | apply below_alloc | apply pw_below_drewN | apply below_drew1) | exact HB.out)) hb); clear HO_7; clear HO_8; clear HB; have HO_7 := n0_; have HO_8 := n1_; have HO155 := n2_; have HB := n3_; clear n0_ n1_ n2_ n3_; (try clear hb); (try clear hb2); (try clear hk); (try clear hi); (try clear ho0)))
            go_roundg k1
            case measure => have := HK1.out; omega
            case rel => exact ⟨(x8_1), (wrap64 (x9_1 + 1)), (by first | rfl | (simp; done) | (simp [*]; done)), H', ⟨by have := HK1.out; omega⟩, ⟨by (with_reducible repeat (first | apply Kd.R_alloc | apply Kd.R_drewN | apply Kd.R_drew)); exact Kd.R_mono HO_7.out (fun _ hk => hk.1)⟩, ⟨by (with_reducible repeat (first | apply Kd.R_alloc | apply Kd.R_drewN | apply Kd.R_drew)); exact Kd.R_mono HO_8.out (fun _ hk => hk.1)⟩, ⟨by repeat (first | (with_reducible first | exact HB.out | apply below_alloc | apply pw_below_drewN | apply below_drew1) | exact HB.out)⟩⟩
        · rw [if_neg c11] at H
          have c11b0 : decide (x9_1 ≤ t151) = false := decide_eq_false c11
          clear c11
          obtain rfl := Option.some.inj H
          go_wp2_with (first | ((with_reducible refine gate_callee (f := 34) rfl ?_); refine goesL_ (some 25) rfl rfl Try.func34 (by kernel_rfl) rfl #[.int .i64 a0, .int .i64 a1] rfl (by (try simp only [List.map_toArray, List.map_cons, List.map_nil]); first | done | rfl | (simp only [List.length_drop, List.length_take]; rfl)) ?_; (with_reducible refine (spec_l1Least.calls0 a0 a1 t150 _ A9.out).mono ?_); rintro e w' ⟨rfl, rfl⟩; refine ⟨_, rfl, ?_⟩) | ((with_reducible refine gate_callee (f := 34) rfl ?_); refine goesL_ (some 27) rfl rfl Try.func34 (by kernel_rfl) rfl #[.int .i64 t150, .int .i64 a2] rfl (by (try simp only [List.map_toArray, List.map_cons, List.map_nil]); first | done | rfl | (simp only [List.length_drop, List.length_take]; rfl)) ?_; (with_reducible refine (spec_l1Least.calls0 t150 a2 t151 _ A10.out).mono ?_); rintro e w' ⟨rfl, rfl⟩; refine ⟨_, rfl, ?_⟩))
          go_ret
          exact ⟨_, by first | rfl | (simp [errW_none, errW_some] <;> rfl) | (simp [*, errW_none, errW_some] <;> rfl), by (with_reducible repeat (first | apply Kd.R_alloc | apply Kd.R_drewN | apply Kd.R_drew)); exact Kd.R_mono HO_8.out (fun _ hk => trivial), by repeat (first | (with_reducible first | exact HB.out | apply below_alloc | apply pw_below_drewN | apply below_drew1) | exact HB.out)⟩

end Go.Proofs.Ytbiibhfcclfoiaa.PrintA
