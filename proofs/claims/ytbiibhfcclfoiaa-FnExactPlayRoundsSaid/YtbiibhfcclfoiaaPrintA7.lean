-- written by this session's own driver (wip/gen.py) with the kit's print and contracts of our own
import Derived.Test.YtbiibhfcclfoiaaPrintA0
import Derived.Test.YtbiibhfcclfoiaaPrintA3
import Derived.Test.YtbiibhfcclfoiaaPrintA5
import Derived.Test.YtbiibhfcclfoiaaPrintA6
namespace Go.Proofs.Ytbiibhfcclfoiaa.PrintA
open Go.RowKit Go.Proofs.YtbiibhfcclfoiaaLib Go.Proofs.YtbiibhfcclfoiaaW.PrintWords Go.Proofs.YtbiibhfcclfoiaaW.PrintLast Go.Proofs.YtbiibhfcclfoiaaW.PrintMore
attribute [local go_sem] max2_int min2_int max_two min_two max_three min_three max_four min_four   -- for this text's walks alone
set_option linter.unusedVariables false
set_option linter.unusedSimpArgs false

/-! behind spec_roOf -/
theorem roOf_l0 (h t e m : Nat) (n : Int) (hn : 0 ≤ n) (hn2 : n ≤ 1000) (he : e ≤ 10) (hm : m ≤ e) : ∀ (r k : Nat), r ≤ m → 
    spec_roOf.l0 (k + r + 1) (e : Int) n (m : Int) (rlist h t e) (lowL (rr h t) e n m r) ((r : Int) - 1) = spec_roOf.l1 k (e : Int) n (m : Int) (rlist h t e) (lowL (rr h t) e n m 0) [] 0 0
  | 0, k, hr => by
    rw [show k + 0 + 1 = k + 1 from rfl, spec_roOf.l0, if_neg (by omega)]
  | x + 1, k, hr => by
    have hst := lowL_step (rr h t) (fun e => (rr_range h t e).1) e n m x (by omega)
    have hse := lowL_set (rr h t) e n m x (by omega)
    have hgx := rlist_get h t e (e - (m - 1 - x)) (by omega)
    have hr1 := rr_range h t (e - (m - 1 - x))
    have hlow : -20000000000 ≤ (lowL (rr h t) e n m (x + 1)).getD (x + 1) 0 ∧ (lowL (rr h t) e n m (x + 1)).getD (x + 1) 0 ≤ 2000 := by
      rw [lowL_get _ _ _ _ _ _ (by omega)]
      have hs := sumR_range (rr h t) (rr_range h t) e (m - 1 - (x + 1) + 1)
      split
      · omega
      · rw [if_pos (Nat.le_refl _)]
        unfold covR
        omega
    have e1 : ((x + 1 : Nat) : Int) - 1 = (x : Int) := by omega
    have e2 : wrap64 ((x : Int) + 1) = ((x + 1 : Nat) : Int) := by unfold wrap64; omega
    have e3 : wrap64 ((e : Int) - wrap64 (wrap64 ((m : Int) - 1) - (x : Int))) = ((e - (m - 1 - x) : Nat) : Int) := by clear e2; unfold wrap64; omega
    have e4 : rd (lowL (rr h t) e n m (x + 1)) ((x + 1 : Nat) : Int) = (lowL (rr h t) e n m (x + 1)).getD (x + 1) 0 := rd_nat' _ _
    have e5 : wrap64 ((x : Int) - 1) = (x : Int) - 1 := by clear e2 e3; unfold wrap64; omega
    have e6 : wrap64 (wrap64 ((lowL (rr h t) e n m (x + 1)).getD (x + 1) 0 - 1) - rr h t (e - (m - 1 - x))) = (lowL (rr h t) e n m (x + 1)).getD (x + 1) 0 - 1 - rr h t (e - (m - 1 - x)) := by
      generalize (lowL (rr h t) e n m (x + 1)).getD (x + 1) 0 = y at hlow
      clear e2 e3 e4 e5 hst
      unfold wrap64; omega
    rw [show k + (x + 1) + 1 = (k + x + 1) + 1 by omega, spec_roOf.l0, e1, if_pos (by clear e2 e3 e4 e5 e6; omega), e2, lowL_len, if_pos (by clear e2 e3 e4 e5 e6; omega), if_pos (by clear e2 e3 e4 e5 e6; omega), e3, rlist_len, if_pos (by clear e2 e3 e4 e5 e6; omega), if_pos (by clear e2 e3 e4 e5 e6; omega), e4, rd_nat', hgx, e6, spec_l1Most_is, Option.bind_some, if_pos (by clear e2 e3 e4 e5 e6; omega), if_pos (by clear e2 e3 e4 e5 e6; omega), e5, Int.toNat_natCast, show ((x + 1 : Nat) : Int) = (x : Int) + 1 by clear e2 e3 e4 e5 e6; omega, hst, hse]
    exact roOf_l0 h t e m n hn hn2 he hm x k (by clear e2 e3 e4 e5 e6; omega)
def ofRes : Option (List Int) → List Int × Bool
  | some l => (l, true)
  | none => ([], false)
theorem roOf_l1 (h t e m : Nat) (n : Int) (hn : 0 ≤ n) (hn2 : n ≤ 1000) (he : e ≤ 10) (hm : m ≤ e) : ∀ (r k i : Nat) (before : Int) (out : List Int), m - i = r → i ≤ m → (i : Int) ≤ before → before ≤ 1000 → (i = m → n - before ≤ rr h t e) → out.length = i → r < k →
    spec_roOf.l1 k (e : Int) n (m : Int) (rlist h t e) (lowL (rr h t) e n m 0) out before (i : Int) = some (ofRes (fOf (rr h t) e n r out before))
  | 0, k, i, before, out, hr, hi, hb, hb2, hend, ho, hk => by
    obtain ⟨k, rfl⟩ : ∃ m, k = m + 1 := ⟨k - 1, by omega⟩
    have h1 := hend (by omega)
    have e1 : wrap64 (n - before) = n - before := by unfold wrap64; omega
    rw [spec_roOf.l1, if_neg (by clear e1; omega), rlist_len, if_pos (by clear e1; omega), if_pos (by clear e1; omega), e1, rd_nat', rlist_get h t e e (Nat.le_refl _), decide_eq_true h1]
    rfl
  | l + 1, k, i, before, out, hr, hi, hb, hb2, hend, ho, hk => by
    obtain ⟨k, rfl⟩ : ∃ m, k = m + 1 := ⟨k - 1, by omega⟩
    have hlow := lowL_get (rr h t) e n m 0 i hi
    rw [if_neg (by omega), if_pos (Nat.zero_le _), show m - 1 - i = l by omega] at hlow
    have hs := sumR_range (rr h t) (rr_range h t) e (l + 1)
    have hx : max (before + 1) ((lowL (rr h t) e n m 0).getD i 0) = max (before + 1) (n - covR (rr h t) e l) := by rw [hlow]; omega
    have hcv : covR (rr h t) e 0 = rr h t e := by simp [covR, sumR]
    have hc0 : 0 ≤ covR (rr h t) e l := by unfold covR; omega
    have hg := rr_range h t (e - l - 1)
    have e1 : wrap64 (before + 1) = before + 1 := by unfold wrap64; omega
    have e2 : wrap64 ((i : Int) + 1) = ((i + 1 : Nat) : Int) := by clear e1; unfold wrap64; omega
    have e3 : wrap64 ((e : Int) - wrap64 ((m : Int) - (i : Int))) = ((e - l - 1 : Nat) : Int) := by clear e1 e2; unfold wrap64; omega
    rw [spec_roOf.l1, if_pos (by clear e1 e2 e3; omega), lowL_len, if_pos (by clear e1 e2 e3; omega), if_pos (by clear e1 e2 e3; omega), e1, rd_nat', spec_l1Most_is, Option.bind_some, hx, e3, rlist_len, if_pos (by clear e1 e2 e3; omega), if_pos (by clear e1 e2 e3; omega), rd_nat', rlist_get h t e _ (by clear e1 e2 e3; omega), fOf_step, e2]
    have hf1 : max (before + 1) (n - covR (rr h t) e l) ≥ before + 1 := by clear e1 e2 e3; omega
    have hf2 : max (before + 1) (n - covR (rr h t) e l) ≤ 1001 := by clear e1 e2 e3; omega
    have hf3 : l = 0 → n - max (before + 1) (n - covR (rr h t) e l) ≤ rr h t e := by
      clear e1 e2 e3
      intro hl
      subst hl
      rw [hcv]; omega
    clear hx hlow e1 e2 e3
    generalize max (before + 1) (n - covR (rr h t) e l) = f at hf1 hf2 hf3
    have e4 : wrap64 (wrap64 (f - before) - 1) = f - before - 1 := by unfold wrap64; omega
    rw [e4]
    clear e4
    by_cases hq : f - before - 1 > rr h t (e - l - 1)
    · rw [if_pos hq, if_pos (Or.inr hq)]; rfl
    · rw [if_neg hq]
      by_cases hq2 : f > n
      · rw [if_pos hq2, if_pos (Or.inl hq2)]; rfl
      · rw [if_neg hq2, if_pos (by omega), if_neg (fun hh => hh.elim hq2 hq)]
        exact roOf_l1 h t e m n hn hn2 he hm l k (i + 1) f (out ++ [f]) (by omega) (by omega) (by omega) (by omega) (fun hh => hf3 (by omega)) (by simp [ho]) (by omega)
theorem roOf_is (h t e m : Nat) (n : Int) (hn : 0 ≤ n) (hn2 : n ≤ 1000) (he : e ≤ 10) (hm : m ≤ e) (h1 : 1 ≤ m) (k : Nat) (hk : 2000 ≤ k) : spec_roOf.f k (e : Int) n (m : Int) (rlist h t e) = some (ofRes (fOf (rr h t) e n m [] 0)) := by
  obtain ⟨k, rfl⟩ : ∃ q, k = q + m + 1 := ⟨k - m - 1, by omega⟩
  have e1 : wrap64 ((m : Int) + 1) = ((m + 1 : Nat) : Int) := by unfold wrap64; omega
  have e2 : wrap64 (n + 1) = n + 1 := by clear e1; unfold wrap64; omega
  have e3 : wrap64 ((m : Int) - 1) = (m : Int) - 1 := by clear e1 e2; unfold wrap64; omega
  have hz : (List.replicate (m + 1) (0 : Int)).set m (n + 1) = lowL (rr h t) e n m m := by
    apply List.ext_getElem
    · simp [lowL]
    · intro i h1 h2
      simp only [List.length_set, List.length_replicate] at h1
      rw [List.getElem_set]
      simp only [lowL, List.getElem_map, List.getElem_range, List.getElem_replicate]
      by_cases hi : m = i
      · subst hi
        rw [if_pos rfl, if_pos rfl]
      · rw [if_neg hi, if_neg (by omega), if_neg (by omega)]
  have a1 := roOf_l0 h t e m n hn hn2 he hm m k (Nat.le_refl _)
  have a2 := roOf_l1 h t e m n hn hn2 he hm m k 0 0 [] (by omega) (by omega) (by omega) (by omega) (by omega) rfl (by omega)
  unfold spec_roOf.f
  rw [e1, if_pos (by clear e1 e2 e3; omega), if_pos (by clear e1 e2 e3; omega), Int.toNat_natCast, Option.bind_some, if_pos (by clear e1 e2 e3; omega), List.length_replicate, if_pos (by clear e1 e2 e3; omega), Int.toNat_natCast, e2, e3, hz, a1]
  exact a2

/-! ### spec_roLess: function 47 -/
def spec_roLess.l0 : Nat → List Int → List Int → List Int → Int → Int → Option (Bool)
  | 0, _, _, _, _, _ => none
  | k + 1, x0, x1, x7, x8, x9 => if x9 < x8 then (if 0 ≤ x9 then (if x9 < (x7.length : Int) then (if x9 = (x1.length : Int) then (some false) else (if x9 < (x1.length : Int) then (if (rd x7 x9) = (rd x1 x9) then (spec_roLess.l0 k x0 x1 x7 x8 (wrap64 (x9 + 1))) else (some (decide ((rd x7 x9) < (rd x1 x9))))) else (none))) else (none)) else (none)) else (some (decide ((x0.length : Int) < (x1.length : Int))))
def spec_roLess.f (k : Nat) (l0 : List Int) (l1 : List Int) : Option (Bool) := spec_roLess.l0 k l0 l1 l0 (l0.length : Int) 0
theorem spec_roLess.mono_l : ∀ k, (∀ y0 y1 y2 y3 y4, LeO (spec_roLess.l0 k y0 y1 y2 y3 y4) (spec_roLess.l0 (k + 1) y0 y1 y2 y3 y4))
  | 0 => fun _ _ _ _ _ r h => by simp [spec_roLess.l0] at h
  | k + 1 => by
    have ih0 := spec_roLess.mono_l k
    · intro y0 y1 y2 y3 y4
      unfold spec_roLess.l0
      repeat' first
      | (with_reducible exact ih0 _ _ _ _ _)
      | (with_reducible exact LeO.refl _)
      | (with_reducible exact LeO.none _)
      | (with_reducible refine LeO.ite ?_ ?_)
      | (with_reducible refine LeO.bind ?_ (fun _ => ?_))
      | exact ih0 _ _ _ _ _
      | exact LeO.none _
      | refine LeO.ite ?_ ?_
      | refine LeO.bind ?_ (fun _ => ?_)
theorem spec_roLess.mono : ∀ a0 a1 k, LeO (spec_roLess.f k a0 a1) (spec_roLess.f (k + 1) a0 a1) := by
  intro a0 a1 k
  have ih0 := spec_roLess.mono_l k
  unfold spec_roLess.f
  repeat' first
      | (with_reducible exact ih0 _ _ _ _ _)
      | (with_reducible exact LeO.refl _)
      | (with_reducible exact LeO.none _)
      | (with_reducible refine LeO.ite ?_ ?_)
      | (with_reducible refine LeO.bind ?_ (fun _ => ?_))
      | exact ih0 _ _ _ _ _
      | exact LeO.none _
      | refine LeO.ite ?_ ?_
      | refine LeO.bind ?_ (fun _ => ?_)
set_option maxHeartbeats 8000000 in
set_option maxRecDepth 100000 in
theorem spec_roLess.calls (k : Nat) (A0 : Option Addr) (c0 : Nat) (l0 : List Int) (A1 : Option Addr) (c1 : Nat) (l1 : List Int) (r : Bool) (w : World) (hr0 : Kd.C (Kd.int .i64) w A0 l0.length l0) (hc0 : l0.length ≤ c0) (hr1 : Kd.C (Kd.int .i64) w A1 l1.length l1) (hc1 : l1.length ≤ c1) (h : spec_roLess.f k l0 l1 = some r) :
    Calls Try.prog 47 #[.slice A0 l0.length c0, .slice A1 l1.length c1] w fun e w' => e = .returned (.bool r) ∧ Drawn0 w w' := by
  have HR0 := Aside0.mk hr0
  have HC0 := Aside0.mk hc0
  clear hr0 hc0
  have HR1 := Aside0.mk hr1
  have HC1 := Aside0.mk hc1
  clear hr1 hc1
  have H : (spec_roLess.l0 k l0 l1 l0 (l0.length : Int) 0) = some r := h
  clear h
  have H' := Aside0.mk H
  clear H
  go_enter Try.func47, Try.ntmps47
  go_wp2
  go_loopg [9] k (fun kq v9 w' => ∃ (x9_1 : Int), v9 = .int .i64 x9_1 ∧ Aside0 (spec_roLess.l0 kq l0 l1 l0 (l0.length : Int) x9_1 = some r) ∧ Aside0 (kq ≤ k) ∧ Drawn0 w w')
  case atStart => exact ⟨(0), (by first | rfl | (simp; done) | (simp [*]; done)), H', ⟨Nat.le_refl _⟩, by repeat (first | exact Drawn0.refl _ | apply Drawn0.step)⟩
  case round =>
    clear H'
    try clear c1
    try clear p2
    obtain ⟨x9_1, rfl, HA, HK1, ⟨m1, rfl⟩⟩ := hrel
    cases gk with
    | zero => exact absurd HA.out (by simp [spec_roLess.l0])
    | succ k1 =>
      have H := HA.out
      clear HA
      simp only [spec_roLess.l0] at H
      by_cases c3 : x9_1 < (l0.length : Int)
      · rw [if_pos c3] at H
        have c3b0 : decide (x9_1 < (l0.length : Int)) = true := decide_eq_true c3
        clear c3
        by_cases c4 : 0 ≤ x9_1
        · rw [if_pos c4] at H
          have c4b0 : decide (0 ≤ x9_1) = true := decide_eq_true c4
          clear c4
          by_cases c5 : x9_1 < (l0.length : Int)
          · rw [if_pos c5] at H
            have c5b0 : decide (x9_1 < (l0.length : Int)) = true := decide_eq_true c5
            clear c5
            by_cases c6 : x9_1 = (l1.length : Int)
            · rw [if_pos c6] at H
              have c6b0 : (x9_1 == (l1.length : Int)) = true := beq_iff_eq.mpr c6
              have c6b1 : (x9_1 != (l1.length : Int)) = false := bne_eq_false_iff_eq.mpr c6
              clear c6
              obtain rfl := Option.some.inj H
              have p143 : 0 ≤ (x9_1 : Int) := of_decide_eq_true (by first | (with_reducible assumption) | assumption)
              have q143 : x9_1 < (l0.length : Int) := of_decide_eq_true (by first | (with_reducible assumption) | assumption)
              obtain ⟨ad143, e143, hx143_0⟩ := Kd.at_int HR0.out x9_1 p143 q143
              cases e143
              replace p143 := eq_true p143
              replace q143 := eq_true q143
              go_wp2
              go_ret
              exact ⟨by first | rfl | (simp; done) | (simp [*]; done), by repeat (first | exact Drawn0.refl _ | apply Drawn0.step)⟩
            · rw [if_neg c6] at H
              have c6b0 : (x9_1 == (l1.length : Int)) = false := beq_eq_false_iff_ne.mpr c6
              have c6b1 : (x9_1 != (l1.length : Int)) = true := bne_iff_ne.mpr c6
              by_cases c7 : x9_1 < (l1.length : Int)
              · rw [if_pos c7] at H
                have c7b0 : decide (x9_1 < (l1.length : Int)) = true := decide_eq_true c7
                clear c7
                by_cases c8 : (rd l0 x9_1) = (rd l1 x9_1)
                · rw [if_pos c8] at H
                  have c8b0 : ((rd l0 x9_1) == (rd l1 x9_1)) = true := beq_iff_eq.mpr c8
                  have c8b1 : ((rd l0 x9_1) != (rd l1 x9_1)) = false := bne_eq_false_iff_eq.mpr c8
                  clear c8
                  have H' := Aside0.mk H
                  clear H
                  have p143 : 0 ≤ (x9_1 : Int) := of_decide_eq_true (by first | (with_reducible assumption) | assumption)
                  have q143 : x9_1 < (l0.length : Int) := of_decide_eq_true (by first | (with_reducible assumption) | assumption)
                  obtain ⟨ad143, e143, hx143_0⟩ := Kd.at_int HR0.out x9_1 p143 q143
                  cases e143
                  replace p143 := eq_true p143
                  replace q143 := eq_true q143
                  have p144 : 0 ≤ (x9_1 : Int) := of_decide_eq_true (by first | (with_reducible assumption) | assumption)
                  have q144 : x9_1 < (l1.length : Int) := of_decide_eq_true (by first | (with_reducible assumption) | assumption)
                  obtain ⟨ad144, e144, hx144_0⟩ := Kd.at_int HR1.out x9_1 p144 q144
                  cases e144
                  replace p144 := eq_true p144
                  replace q144 := eq_true q144
                  go_wp2
                  go_roundg k1
                  case measure => have := HK1.out; omega
                  case rel => exact ⟨(wrap64 (x9_1 + 1)), (by first | rfl | (simp; done) | (simp [*]; done)), H', ⟨by have := HK1.out; omega⟩, by repeat (first | exact Drawn0.refl _ | apply Drawn0.step)⟩
                · rw [if_neg c8] at H
                  have c8b0 : ((rd l0 x9_1) == (rd l1 x9_1)) = false := beq_eq_false_iff_ne.mpr c8
                  have c8b1 : ((rd l0 x9_1) != (rd l1 x9_1)) = true := bne_iff_ne.mpr c8
                  obtain rfl := Option.some.inj H
                  have p143 : 0 ≤ (x9_1 : Int) := of_decide_eq_true (by first | (with_reducible assumption) | assumption)
                  have q143 : x9_1 < (l0.length : Int) := of_decide_eq_true (by first | (with_reducible assumption) | assumption)
                  obtain ⟨ad143, e143, hx143_0⟩ := Kd.at_int HR0.out x9_1 p143 q143
                  cases e143
                  replace p143 := eq_true p143
                  replace q143 := eq_true q143
                  have p144 : 0 ≤ (x9_1 : Int) := of_decide_eq_true (by first | (with_reducible assumption) | assumption)
                  have q144 : x9_1 < (l1.length : Int) := of_decide_eq_true (by first | (with_reducible assumption) | assumption)
                  obtain ⟨ad144, e144, hx144_0⟩ := Kd.at_int HR1.out x9_1 p144 q144
                  cases e144
                  replace p144 := eq_true p144
                  replace q144 := eq_true q144
                  have p145 : 0 ≤ (x9_1 : Int) := of_decide_eq_true (by first | (with_reducible assumption) | assumption)
                  have q145 : x9_1 < (l1.length : Int) := of_decide_eq_true (by first | (with_reducible assumption) | assumption)
                  obtain ⟨ad145, e145, hx145_0⟩ := Kd.at_int HR1.out x9_1 p145 q145
                  obtain rfl : ad144 = ad145 := (by injection e145)
                  replace p145 := eq_true p145
                  replace q145 := eq_true q145
                  go_wp2
                  go_ret
                  exact ⟨by first | rfl | (simp; done) | (simp [*]; done), by repeat (first | exact Drawn0.refl _ | apply Drawn0.step)⟩
              · rw [if_neg c7] at H
                exact absurd H (by simp)
          · rw [if_neg c5] at H
            exact absurd H (by simp)
        · rw [if_neg c4] at H
          exact absurd H (by simp)
      · rw [if_neg c3] at H
        have c3b0 : decide (x9_1 < (l0.length : Int)) = false := decide_eq_false c3
        clear c3
        obtain rfl := Option.some.inj H
        go_wp2
        go_ret
        exact ⟨by first | rfl | (simp; done) | (simp [*]; done), by repeat (first | exact Drawn0.refl _ | apply Drawn0.step)⟩

/-! behind spec_roLess -/
theorem roLess_l0 (a b : List Int) (ha : a.length ≤ 1000) (hb : b.length ≤ 1000) : ∀ (r k i : Nat), a.length - i = r → i ≤ a.length → i ≤ b.length → r < k → spec_roLess.l0 k a b a (a.length : Int) (i : Int) = some (if i = a.length then decide (a.length < b.length) else lexLt (a.drop i) (b.drop i))
  | 0, k, i, hr, hi, hib, hk => by
    obtain ⟨k, rfl⟩ : ∃ m, k = m + 1 := ⟨k - 1, by omega⟩
    obtain rfl : i = a.length := by omega
    rw [spec_roLess.l0, if_neg (by omega), if_pos rfl]
    congr 1
    simp
  | r + 1, k, i, hr, hi, hib, hk => by
    obtain ⟨k, rfl⟩ : ∃ m, k = m + 1 := ⟨k - 1, by omega⟩
    have hlt : i < a.length := by omega
    have hra : rd a (i : Int) = a[i] := by simp [rd, List.getD_eq_getElem?_getD, hlt]
    rw [spec_roLess.l0, if_pos (by omega), if_pos (by omega), if_pos (by omega), if_neg (show ¬ i = a.length by omega), List.drop_eq_getElem_cons hlt]
    by_cases hq : i = b.length
    · subst hq
      rw [if_pos rfl, List.drop_length]
      rfl
    · have hlb : i < b.length := by omega
      have hrb : rd b (i : Int) = b[i] := by simp [rd, List.getD_eq_getElem?_getD, hlb]
      have e2 : wrap64 ((i : Int) + 1) = ((i + 1 : Nat) : Int) := by unfold wrap64; omega
      rw [if_neg (by clear e2 hra hrb; omega), if_pos (by clear e2 hra hrb; omega), hra, hrb, e2, List.drop_eq_getElem_cons hlb, lexLt]
      clear e2 hra hrb
      by_cases hx : a[i] = b[i]
      · rw [if_pos hx, if_pos hx, roLess_l0 a b ha hb r k (i + 1) (by omega) (by omega) (by omega) (by omega)]
        by_cases hy : i + 1 = a.length
        · rw [if_pos hy, hy, List.drop_length]
          congr 1
          cases hd : b.drop a.length with
          | nil =>
            have : (b.drop a.length).length = 0 := by rw [hd]; rfl
            rw [List.length_drop] at this
            rw [lexLt]; simp; omega
          | cons x s =>
            have : (b.drop a.length).length = s.length + 1 := by rw [hd]; rfl
            rw [List.length_drop] at this
            rw [lexLt]; simp; omega
        · rw [if_neg hy]
      · rw [if_neg hx, if_neg hx]
theorem roLess_is (a b : List Int) (ha : a.length ≤ 1000) (hb : b.length ≤ 1000) (k : Nat) (hk : 2000 ≤ k) (hne : a ≠ []) : spec_roLess.f k a b = some (lexLt a b) := by
  have hp := List.length_pos_iff.2 hne
  have := roLess_l0 a b ha hb a.length k 0 (by omega) (by omega) (by omega) (by omega)
  rw [if_neg (by omega)] at this
  unfold spec_roLess.f
  simpa using this

end Go.Proofs.Ytbiibhfcclfoiaa.PrintA
