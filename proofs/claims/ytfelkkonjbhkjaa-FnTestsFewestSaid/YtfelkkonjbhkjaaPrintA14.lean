-- written by this session's own driver (wip/gen.py) with the kit's print and contracts of our own
import Derived.Test.YtfelkkonjbhkjaaPrintA0
import Derived.Test.YtfelkkonjbhkjaaPrintA1
import Derived.Test.YtfelkkonjbhkjaaPrintA2
import Derived.Test.YtfelkkonjbhkjaaPrintA3
import Derived.Test.YtfelkkonjbhkjaaPrintA5
import Derived.Test.YtfelkkonjbhkjaaPrintA9
import Derived.Test.YtfelkkonjbhkjaaPrintA13
namespace Go.Proofs.Ytfelkkonjbhkjaa.PrintA
open Go.RowKit Go.Proofs.YtfelkkonjbhkjaaLib Go.Proofs.YtfelkkonjbhkjaaW.PrintWords Go.Proofs.YtfelkkonjbhkjaaW.PrintLast Go.Proofs.YtfelkkonjbhkjaaW.PrintMore
attribute [local go_sem] max2_int min2_int max_two min_two max_three min_three max_four min_four   -- for this text's walks alone
set_option linter.unusedVariables false
set_option linter.unusedSimpArgs false

/-! behind spec_ReachOf -/
-- LIB Choose
theorem rch_sum : ∀ t e : Nat, rch t e = min 1000000001 (sumC t e)
  | 0, e => by rw [sumC_zero]; rfl
  | t + 1, 0 => rfl
  | t + 1, e + 1 => by
    have h1 := rch_sum t e
    have h2 := rch_sum t (e + 1)
    have h3 := sumC_nonneg t e
    have h4 := sumC_nonneg t (e + 1)
    rw [sumC_step]
    have : rch (t + 1) (e + 1) = min 1000000001 (rch t e + rch t (e + 1) + 1) := rfl
    omega
theorem rch_mono_e : ∀ t e : Nat, rch t e ≤ rch t (e + 1)
  | 0, e => by simp [rch]
  | t + 1, 0 => by have := (rch_range (t + 1) 1).1; simpa [rch] using this
  | t + 1, e + 1 => by
    have h1 := rch_mono_e t e
    have h2 := rch_mono_e t (e + 1)
    have e1 : rch (t + 1) (e + 1) = min 1000000001 (rch t e + rch t (e + 1) + 1) := rfl
    have e2 : rch (t + 1) (e + 1 + 1) = min 1000000001 (rch t (e + 1) + rch t (e + 1 + 1) + 1) := rfl
    omega
theorem reachOf_both (a t : Int) : ∃ r b, impl_ReachOf.f a t = some (r, b) ∧ spec_ReachOf.f 40000 a t = some (r, b) ∧ (b = true → ∃ e tn : Nat, a = (e : Int) ∧ t = (tn : Int) ∧ 1 ≤ e ∧ e ≤ 10 ∧ tn ≤ 1000 ∧ r = sumC tn e ∧ r ≤ 1000000000) := by
  unfold impl_ReachOf.f spec_ReachOf.f
  rw [spec_flEggs_is, Option.bind_some]
  cases h1 : (decide (1 ≤ a) && decide (a ≤ 10)) with
  | false =>
    refine ⟨0, false, ?_, rfl, fun h => by cases h⟩
    rw [if_neg (by intro h; unfold isH at h; rw [h1] at h; exact absurd h.1 (by simp))]
  | true =>
    rw [if_pos rfl, spec_l1In_is, Option.bind_some]
    cases h2 : (decide (0 ≤ t) && decide (t ≤ 1000)) with
    | false =>
      refine ⟨0, false, ?_, rfl, fun h => by cases h⟩
      rw [if_neg (by intro h; unfold isH at h; rw [h1, h2] at h; exact absurd h.1 (by decide))]
    | true =>
      have hh : isH a t = true := by unfold isH; rw [h1, h2]; rfl
      obtain ⟨q1, q2⟩ := isH_true hh
      obtain ⟨e, rfl⟩ : ∃ m : Nat, a = m := ⟨a.toNat, by omega⟩
      obtain ⟨tn, rfl⟩ : ∃ m : Nat, t = m := ⟨t.toNat, by omega⟩
      rw [if_pos rfl, spec_flReach_is e tn (by omega) (by omega) 40000 (by omega), Option.bind_some, Option.bind_some, Int.toNat_natCast, Int.toNat_natCast, hh]
      have hs := rch_sum tn e
      by_cases hb : rch tn e ≤ 1000000000
      · rw [if_pos ⟨rfl, hb⟩, if_neg (by omega)]
        exact ⟨_, true, rfl, rfl, fun _ => ⟨e, tn, rfl, rfl, by omega, by omega, by omega, by omega, hb⟩⟩
      · rw [if_neg (by intro h; exact hb h.2), if_pos (by omega)]
        exact ⟨0, false, rfl, rfl, fun h => by cases h⟩
/-- The fewest tests reach the floors, one less does not. -/
theorem reach_few (e n : Nat) (h1 : 1 ≤ e) (h2 : e ≤ 10) (hn : n ≤ 1000) (q : Nat) (hq : q = few e n ∨ q + 1 = few e n) : ∃ r, impl_ReachOf.f e q = some (r, true) ∧ decide (r ≥ (n : Int)) = decide (q = few e n) := by
  have hl := few_le e (n : Int)
  have hq1 : q ≤ 1000 := by omega
  have hlow : ∀ m : Nat, m < few e n → rch m e < n := fun m hm => by
    have := few_le_iff e (n : Int) m (by omega)
    omega
  have hhigh : (n : Int) ≤ rch (few e n) e := by
    by_cases hf : few e n < 1000
    · exact (few_le_iff e n _ hf).1 (Nat.le_refl _)
    · have := rch_lin (few e n) e h1 (by omega); omega
  have hbd : rch q e ≤ 1000000000 := by
    rcases Nat.eq_zero_or_pos (few e n) with h0 | h0
    · obtain rfl : q = 0 := by omega
      simp [rch]
    · obtain ⟨t, ht⟩ : ∃ t, few e n = t + 1 := ⟨few e n - 1, by omega⟩
      have h4 := hlow t (by omega)
      obtain ⟨e', rfl⟩ : ∃ e', e = e' + 1 := ⟨e - 1, by omega⟩
      have h5 := rch_mono_e t e'
      have e1 : rch (t + 1) (e' + 1) = min 1000000001 (rch t e' + rch t (e' + 1) + 1) := rfl
      have h6 := rch_mono (e' + 1) (show q ≤ t + 1 by omega)
      omega
  have hh : isH (e : Int) (q : Int) = true := by unfold isH; rw [decide_eq_true (by omega), decide_eq_true (by omega), decide_eq_true (by omega), decide_eq_true (by omega)]; rfl
  refine ⟨rch q e, ?_, ?_⟩
  · unfold impl_ReachOf.f
    rw [Int.toNat_natCast, Int.toNat_natCast, if_pos ⟨hh, hbd⟩]
  · rw [decide_eq_decide]
    constructor
    · intro h
      rcases hq with h3 | h3
      · exact h3
      · have := hlow q (by omega); omega
    · intro h; rw [h]; exact hhigh
theorem sum_round (tn en k : Nat) (reach s c : Int) (h1 : k < en) (h2 : k < tn) (h10 : en ≤ 10) (h1000 : tn ≤ 1000) (hmax : reach ≤ 1000000000) (hR : reach = sumC tn en) (hs : s = sumC tn k) (hc : c = chs tn k) :
    IntKind.i64.wrap ((tn : Int) - ((k : Int) + 1)) = (tn : Int) - ((k : Int) + 1) ∧ IntKind.i64.wrap ((tn : Int) - ((k : Int) + 1) + 1) = (tn : Int) - k ∧ IntKind.i64.wrap (c * ((tn : Int) - k)) = c * ((tn : Int) - k) ∧
    IntKind.i64.wrap (Int.tdiv (c * ((tn : Int) - k)) ((k : Int) + 1)) = chs tn (k + 1) ∧ IntKind.i64.wrap (s + chs tn (k + 1)) = s + chs tn (k + 1) ∧ IntKind.i64.wrap ((k : Int) + 1 + 1) = (k : Int) + 1 + 1 := by
  have hid := chs_id tn k
  have hn1 : 0 ≤ chs tn (k + 1) := chs_nonneg _ _
  have hn0 : 0 ≤ c := by rw [hc]; exact chs_nonneg _ _
  have hm1 : chs tn (k + 1) ≤ reach := by rw [hR]; exact sumC_chs tn en (k + 1) (by omega) (by omega)
  have hm0 : c ≤ 1000000000 := by
    rw [hc]
    cases k with
    | zero => cases tn <;> simp [chs]
    | succ j => exact Int.le_trans (sumC_chs tn en (j + 1) (by omega) (by omega)) (by rw [← hR]; exact hmax)
  have hs0 : 0 ≤ s := by rw [hs]; exact sumC_nonneg _ _
  have hsm : s ≤ 1000000000 := by
    have hmono : ∀ d, sumC tn k ≤ sumC tn (k + d) := by
      intro d
      induction d with
      | zero => exact Int.le_refl _
      | succ d ih => exact Int.le_trans ih (by have := chs_nonneg tn (k + d + 1); show sumC tn (k + d) ≤ sumC tn (k + d) + chs tn (k + d + 1); omega)
    have := hmono (en - k)
    rw [show k + (en - k) = en by omega, ← hR, ← hs] at this
    omega
  rw [← hc] at hid
  generalize chs tn (k + 1) = d at *
  have hp : c * ((tn : Int) - k) = d * ((k : Int) + 1) := by rw [Int.mul_comm c, ← hid, Int.mul_comm]
  have hpb : d * ((k : Int) + 1) ≤ 1000000000 * 10 := Int.mul_le_mul (by omega) (by omega) (by omega) (by omega)
  have hp0 : 0 ≤ d * ((k : Int) + 1) := Int.mul_nonneg hn1 (by omega)
  have hq : Int.tdiv (d * ((k : Int) + 1)) ((k : Int) + 1) = d := Int.mul_tdiv_cancel d (by omega)
  rw [hp, hq]
  generalize d * ((k : Int) + 1) = p at *
  clear hR hs hc hid hq hp
  refine ⟨?_, ?_, ?_, ?_, ?_, ?_⟩ <;> (rw [i64_w]; unfold wrap64; omega)


/-! ### impl_FewestEggs: function 26, a contract of our own -/
/-- The least number of eggs from e on, up to 10. -/
def feE (n : Int) (t : Nat) : Nat → Nat → Option Nat
  | 0, _ => none
  | d + 1, e => if rch t e ≥ n then some e else feE n t d (e + 1)
def impl_FewestEggs.f (a0 a1 : Int) : Option (Int × Bool) := some (if ((decide (0 ≤ a0) && decide (a0 ≤ 1000)) && (decide (0 ≤ a1) && decide (a1 ≤ 1000))) = true then (match feE a0 a1.toNat 10 1 with | some e => ((e : Int), true) | none => (0, false)) else (0, false))
set_option maxHeartbeats 8000000 in
set_option maxRecDepth 100000 in
theorem impl_FewestEggs.calls (a0 a1 : Int) (r1 : Int) (r2 : Bool) (w : World) (h : impl_FewestEggs.f a0 a1 = some (r1, r2)) :
    Calls Try.prog 26 #[.int .i64 a0, .int .i64 a1] w fun e w' => e = .returned (.tuple #[.int .i64 r1, .bool r2]) ∧ Below w.heap.size w w' := by
  unfold impl_FewestEggs.f at h
  have hq := Option.some.inj h
  have HE : Aside0 (∀ W, Calls Try.prog 55 #[.int .i64 a0] W fun e w' => e = .returned (.bool (decide (0 ≤ a0) && decide (a0 ≤ 1000))) ∧ W = w') := ⟨fun W => impl_isFloors.calls0 a0 _ W (impl_isFloors_is a0)⟩
  have HT : Aside0 (∀ W, Calls Try.prog 50 #[.int .i64 a1] W fun e w' => e = .returned (.bool (decide (0 ≤ a1) && decide (a1 ≤ 1000))) ∧ W = w') := ⟨fun W => impl_isTests.calls0 a1 _ W (by unfold impl_isTests.f; rw [impl_within_is]; rfl)⟩
  have HB := Aside0.mk (Below.refl w.heap.size w)
  clear h
  by_cases c1 : (decide (0 ≤ a0) && decide (a0 ≤ 1000)) = true
  · rw [c1] at HE
    by_cases c2 : (decide (0 ≤ a1) && decide (a1 ≤ 1000)) = true
    · rw [c2] at HT
      rw [if_pos (by rw [c1, c2]; rfl)] at hq
      simp only [Bool.and_eq_true, decide_eq_true_eq] at c1 c2
      obtain ⟨t0, rfl⟩ : ∃ m : Nat, a1 = m := ⟨a1.toNat, by omega⟩
      rw [Int.toNat_natCast] at hq
      have HX : Aside0 (∀ (W : World) (g e : Nat), IsReaches W g → e ≤ 10 → W.cell? ⟨g, t0 * 11 + e, none⟩ = some (.int .i64 (rch t0 e))) := ⟨fun W g e hR he => hR.at_ t0 e (by omega) he⟩
      have z3 : (0 : Int) ≤ (t0 : Int) := by omega
      have z4 : (t0 : Int) < 1001 := by omega
      have HQ : Aside0 ((match feE a0 t0 10 1 with | some e => ((e : Int), true) | none => (0, false)) = (r1, r2)) := ⟨hq⟩
      clear c1 c2 hq
      go_enter Try.func26, Try.ntmps26
      go_wp2_with (first
        | (go_at_call 55; refine (HE.out _).mono ?_; rintro e w' ⟨rfl, rfl⟩)
        | (go_at_call 50; refine (HT.out _).mono ?_; rintro e w' ⟨rfl, rfl⟩)
        | (go_at_call 34; refine (newReaches_calls _).mono ?_; rintro e w' ⟨g, rfl, hR, hg, hb⟩; have HR := Aside0.mk hR; have n_ := Aside0.mk (below_step HB.out hb); clear HB hR hb hg; have HB := n_; clear n_))
      go_loopg [7] 10 (fun gg v7 wr => ∃ (e : Nat), v7 = .int .i64 (e : Int) ∧ 1 ≤ e ∧ e ≤ 11 ∧ 11 - e ≤ gg ∧ Aside0 ((match feE a0 t0 (11 - e) e with | some e => ((e : Int), true) | none => (0, false)) = (r1, r2)) ∧ Aside0 (IsReaches wr g) ∧ Aside0 (Below w.heap.size w wr))
      case atStart => exact ⟨1, rfl, by omega, by omega, by omega, HQ, HR, HB⟩
      case round =>
        clear HQ HR HB
        obtain ⟨e, rfl, he1, he2, hgg, HQ, HR, HB⟩ := hrel
        by_cases hlt : e ≤ 10
        · have hltz : (e : Int) ≤ 10 := by omega
          have z1 : (0 : Int) ≤ (e : Int) := by omega
          have z2 : (e : Int) < 11 := by omega
          have hx := HX.out wr g e HR.out hlt
          have hq := HQ.out
          rw [show 11 - e = (10 - e) + 1 by omega, feE] at hq
          have hw9 : IntKind.i64.wrap ((e : Int) + 1) = (e : Int) + 1 := by rw [i64_w]; unfold wrap64; omega
          clear HQ
          generalize rch t0 e = q at hx hq
          by_cases hb : q ≥ a0
          · rw [if_pos hb] at hq
            obtain ⟨rfl, rfl⟩ := Prod.mk.inj hq
            have hbd : decide (a0 ≤ q) = true := decide_eq_true hb
            clear hq
            go_wp2
            go_ret2
            exact ⟨rfl, HB.out⟩
          · rw [if_neg hb] at hq
            have hbd : decide (a0 ≤ q) = false := decide_eq_false hb
            have HQ : Aside0 ((match feE a0 t0 (11 - (e + 1)) (e + 1) with | some e => ((e : Int), true) | none => (0, false)) = (r1, r2)) := ⟨by rw [show 11 - (e + 1) = 10 - e by clear hw9; omega]; exact hq⟩
            clear hq
            go_wp2
            go_roundg (11 - (e + 1))
            case measure => clear hw9; omega
            case rel => exact ⟨e + 1, by go_num, by clear hw9; omega, by clear hw9; omega, by clear hw9; omega, HQ, HR, HB⟩
        · have hltz : ¬ (e : Int) ≤ 10 := by omega
          obtain rfl : e = 11 := by omega
          have hq := HQ.out
          have hq2 : ((0 : Int), false) = (r1, r2) := hq
          obtain ⟨rfl, rfl⟩ := Prod.mk.inj hq2
          clear hq2
          clear HQ hq
          go_wp2
          go_ret2
          exact ⟨rfl, HB.out⟩
    · have c2' := Bool.eq_false_iff.mpr c2
      rw [c2'] at HT
      rw [if_neg (by rw [c2']; simp)] at hq
      obtain ⟨rfl, rfl⟩ := Prod.mk.inj hq
      clear c1 c2 c2' hq
      go_enter Try.func26, Try.ntmps26
      go_wp2_with (first
        | (go_at_call 55; refine (HE.out _).mono ?_; rintro e w' ⟨rfl, rfl⟩)
        | (go_at_call 50; refine (HT.out _).mono ?_; rintro e w' ⟨rfl, rfl⟩))
      go_ret2
      exact ⟨rfl, HB.out⟩
  · have c1' := Bool.eq_false_iff.mpr c1
    rw [c1'] at HE
    rw [if_neg (by rw [c1']; simp)] at hq
    obtain ⟨rfl, rfl⟩ := Prod.mk.inj hq
    clear c1 c1' hq
    go_enter Try.func26, Try.ntmps26
    go_wp2_with (go_at_call 55; refine (HE.out _).mono ?_; rintro e w' ⟨rfl, rfl⟩)
    go_ret2
    exact ⟨rfl, HB.out⟩


/-! ### spec_FewestEggs: function 27 -/
mutual
def spec_FewestEggs.j0 : Nat → Int → Int → Bool → Option (Int × Bool)
  | 0, _, _, _ => none
  | k + 1, x0, x1, x14 => if x14 = true then (some (0, false)) else (spec_FewestEggs.l0 k x0 x1 1)
def spec_FewestEggs.l0 : Nat → Int → Int → Int → Option (Int × Bool)
  | 0, _, _, _ => none
  | k + 1, x0, x1, x6 => if x6 ≤ 10 then ((spec_flReach.f k x6 x1).bind fun t242 => (if t242 ≥ x0 then (some (x6, true)) else (spec_FewestEggs.l0 k x0 x1 (wrap64 (x6 + 1))))) else (some (0, false))
end
def spec_FewestEggs.f (k : Nat) (a0 : Int) (a1 : Int) : Option (Int × Bool) := (spec_flFloors.f a0).bind fun t240 => (if t240 = true then ((spec_l1In.f a1 0 1000).bind fun t241 => (spec_FewestEggs.j0 k a0 a1 (!t241))) else (spec_FewestEggs.j0 k a0 a1 true))
theorem spec_FewestEggs.mono_l : ∀ k, (∀ y0 y1 y2, LeO (spec_FewestEggs.j0 k y0 y1 y2) (spec_FewestEggs.j0 (k + 1) y0 y1 y2)) ∧ (∀ y0 y1 y2, LeO (spec_FewestEggs.l0 k y0 y1 y2) (spec_FewestEggs.l0 (k + 1) y0 y1 y2))
  | 0 => ⟨fun _ _ _ r h => by simp [spec_FewestEggs.j0] at h, fun _ _ _ r h => by simp [spec_FewestEggs.l0] at h⟩
  | k + 1 => by
    obtain ⟨ih0, ih1⟩ := spec_FewestEggs.mono_l k
    refine ⟨?_, ?_⟩
    · intro y0 y1 y2
      unfold spec_FewestEggs.j0
      repeat' first
      | (with_reducible exact ih0 _ _ _)
      | (with_reducible exact ih1 _ _ _)
      | (with_reducible exact spec_flReach.mono _ _ _)
      | (with_reducible exact LeO.refl _)
      | (with_reducible exact LeO.none _)
      | (with_reducible refine LeO.ite ?_ ?_)
      | (with_reducible refine LeO.bind ?_ (fun _ => ?_))
      | exact ih0 _ _ _
      | exact ih1 _ _ _
      | exact spec_flReach.mono _ _ _
      | exact LeO.none _
      | refine LeO.ite ?_ ?_
      | refine LeO.bind ?_ (fun _ => ?_)
    · intro y0 y1 y2
      unfold spec_FewestEggs.l0
      repeat' first
      | (with_reducible exact ih0 _ _ _)
      | (with_reducible exact ih1 _ _ _)
      | (with_reducible exact spec_flReach.mono _ _ _)
      | (with_reducible exact LeO.refl _)
      | (with_reducible exact LeO.none _)
      | (with_reducible refine LeO.ite ?_ ?_)
      | (with_reducible refine LeO.bind ?_ (fun _ => ?_))
      | exact ih0 _ _ _
      | exact ih1 _ _ _
      | exact spec_flReach.mono _ _ _
      | exact LeO.none _
      | refine LeO.ite ?_ ?_
      | refine LeO.bind ?_ (fun _ => ?_)
theorem spec_FewestEggs.mono : ∀ a0 a1 k, LeO (spec_FewestEggs.f k a0 a1) (spec_FewestEggs.f (k + 1) a0 a1) := by
  intro a0 a1 k
  obtain ⟨ih0, ih1⟩ := spec_FewestEggs.mono_l k
  unfold spec_FewestEggs.f
  repeat' first
      | (with_reducible exact ih0 _ _ _)
      | (with_reducible exact ih1 _ _ _)
      | (with_reducible exact spec_flReach.mono _ _ _)
      | (with_reducible exact LeO.refl _)
      | (with_reducible exact LeO.none _)
      | (with_reducible refine LeO.ite ?_ ?_)
      | (with_reducible refine LeO.bind ?_ (fun _ => ?_))
      | exact ih0 _ _ _
      | exact ih1 _ _ _
      | exact spec_flReach.mono _ _ _
      | exact LeO.none _
      | refine LeO.ite ?_ ?_
      | refine LeO.bind ?_ (fun _ => ?_)
set_option maxHeartbeats 8000000 in
set_option maxRecDepth 100000 in
theorem spec_FewestEggs.calls (k : Nat) (a0 : Int) (a1 : Int) (r1 : Int) (r2 : Bool) (w : World) (h : spec_FewestEggs.f k a0 a1 = some (r1, r2)) :
    Calls Try.prog 27 #[.int .i64 a0, .int .i64 a1] w fun e w' => e = .returned (.tuple #[.int .i64 r1, .bool r2]) ∧ Below w.heap.size w w' := by
  have HB := Aside0.mk (Below.refl w.heap.size w)
  have H : ((spec_flFloors.f a0).bind fun t240 => (if t240 = true then ((spec_l1In.f a1 0 1000).bind fun t241 => (spec_FewestEggs.j0 k a0 a1 (!t241))) else (spec_FewestEggs.j0 k a0 a1 true))) = some (r1, r2) := h
  clear h
  have HC3 := Aside0.mk H
  clear H
  go_enter Try.func27, Try.ntmps27
  go_upto_region 1 with (fail)
  go_cut [14] (fun v14 wc => ∃ (kq : Nat) (x14_2 : Bool), v14 = .bool x14_2 ∧ Aside0 (spec_FewestEggs.j0 kq a0 a1 x14_2 = some (r1, r2)) ∧ Aside0 (kq ≤ k) ∧ Aside0 (Below w.heap.size w wc))
  case first =>
    have H := HC3.out
    clear HC3
    replace H := Option.bind_eq_some_iff.mp H
    obtain ⟨t240, A40, H⟩ := H
    replace H : (if t240 = true then ((spec_l1In.f a1 0 1000).bind fun t241 => (spec_FewestEggs.j0 k a0 a1 (!t241))) else (spec_FewestEggs.j0 k a0 a1 true)) = some (r1, r2) := H
    have A4 := Aside0.mk A40
    clear A40
    by_cases c5 : t240 = true
    · subst c5
      have H1 : ((spec_l1In.f a1 0 1000).bind fun t241 => (spec_FewestEggs.j0 k a0 a1 (!t241))) = some (r1, r2) := by rw [if_pos rfl] at H; exact H
      clear H
      have H := H1
      clear H1
      replace H := Option.bind_eq_some_iff.mp H
      obtain ⟨t241, A60, H⟩ := H
      replace H : (spec_FewestEggs.j0 k a0 a1 (!t241)) = some (r1, r2) := H
      have A6 := Aside0.mk A60
      clear A60
      have H' := Aside0.mk H
      clear H
      go_wp2_with (first | ((with_reducible refine gate_callee (f := 56) rfl ?_); refine goesL_ (some 8) rfl rfl Try.func56 (by kernel_rfl) rfl #[.int .i64 a0] rfl (by (try simp only [List.map_toArray, List.map_cons, List.map_nil]); first | done | rfl | (simp only [List.length_drop, List.length_take]; rfl)) ?_; (with_reducible refine (spec_flFloors.calls0 a0 true _ A4.out).mono ?_); rintro e w' ⟨rfl, rfl⟩; refine ⟨_, rfl, ?_⟩) | (go_at_call 52; (with_reducible refine (spec_l1In.calls0 a1 0 1000 t241 _ A6.out).mono ?_); rintro e w' ⟨rfl, rfl⟩))
      go_meet
      case rel => exact ⟨_, (!t241), (by first | rfl | (simp; done) | (simp [*]; done)), H', ⟨by first | omega | exact Nat.le_refl _⟩, ⟨by repeat (first | (with_reducible first | exact HB.out | apply below_alloc | apply pw_below_drewN | apply below_drew1) | exact HB.out)⟩⟩
    · replace c5 := Bool.eq_false_iff.mpr c5
      subst c5
      have H1 : (spec_FewestEggs.j0 k a0 a1 true) = some (r1, r2) := by rw [if_neg (show ¬ (false = true) by decide)] at H; exact H
      clear H
      have H := H1
      clear H1
      have H' := Aside0.mk H
      clear H
      go_wp2_with (first | ((with_reducible refine gate_callee (f := 56) rfl ?_); refine goesL_ (some 8) rfl rfl Try.func56 (by kernel_rfl) rfl #[.int .i64 a0] rfl (by (try simp only [List.map_toArray, List.map_cons, List.map_nil]); first | done | rfl | (simp only [List.length_drop, List.length_take]; rfl)) ?_; (with_reducible refine (spec_flFloors.calls0 a0 false _ A4.out).mono ?_); rintro e w' ⟨rfl, rfl⟩; refine ⟨_, rfl, ?_⟩))
      go_meet
      case rel => exact ⟨_, (true), (by first | rfl | (simp; done) | (simp [*]; done)), H', ⟨by first | omega | exact Nat.le_refl _⟩, ⟨by repeat (first | (with_reducible first | exact HB.out | apply below_alloc | apply pw_below_drewN | apply below_drew1) | exact HB.out)⟩⟩
  case rest =>
    clear HC3
    try clear c2
    try clear p2
    try clear c5
    obtain ⟨kq, x14_2, rfl, HA, HJ2, HB⟩ := hcut
    cases kq with
    | zero => exact absurd HA.out (by simp [spec_FewestEggs.j0])
    | succ kj2 =>
      have H := HA.out
      clear HA
      simp only [spec_FewestEggs.j0] at H
      by_cases c7 : x14_2 = true
      · subst c7
        have H1 : (some (0, false)) = some (r1, r2) := by rw [if_pos rfl] at H; exact H
        clear H
        have H := H1
        clear H1
        simp only [Option.some.injEq, Prod.mk.injEq] at H
        obtain ⟨rfl, rfl⟩ := H
        go_wp2
        go_ret2
        exact ⟨by first | rfl | (simp [errW_none, errW_some] <;> rfl) | (simp [*, errW_none, errW_some] <;> rfl), by repeat (first | (with_reducible first | exact HB.out | apply below_alloc | apply pw_below_drewN | apply below_drew1) | exact HB.out)⟩
      · replace c7 := Bool.eq_false_iff.mpr c7
        subst c7
        have H1 : (spec_FewestEggs.l0 kj2 a0 a1 1) = some (r1, r2) := by rw [if_neg (show ¬ (false = true) by decide)] at H; exact H
        clear H
        have H := H1
        clear H1
        have H' := Aside0.mk H
        clear H
        go_wp2
        go_loopg [6] kj2 (fun kq v6 w' => ∃ (x6_2 : Int), v6 = .int .i64 x6_2 ∧ Aside0 (spec_FewestEggs.l0 kq a0 a1 x6_2 = some (r1, r2)) ∧ Aside0 (kq ≤ kj2) ∧ Aside0 (Below w.heap.size w w'))
        case atStart => exact ⟨(1), (by first | rfl | (simp; done) | (simp [*]; done)), H', ⟨Nat.le_refl _⟩, ⟨by repeat (first | (with_reducible first | exact HB.out | apply below_alloc | apply pw_below_drewN | apply below_drew1) | exact HB.out)⟩⟩
        case round =>
          clear H'
          try clear c2
          try clear p2
          try clear c5
          try clear c7
          try clear p2
          obtain ⟨x6_2, rfl, HA, HK2, HB⟩ := hrel
          cases gk with
          | zero => exact absurd HA.out (by simp [spec_FewestEggs.l0])
          | succ k2 =>
            have H := HA.out
            clear HA
            simp only [spec_FewestEggs.l0] at H
            by_cases c8 : x6_2 ≤ 10
            · rw [if_pos c8] at H
              have c8b0 : decide (x6_2 ≤ 10) = true := decide_eq_true c8
              clear c8
              replace H := Option.bind_eq_some_iff.mp H
              obtain ⟨t242, A90, H⟩ := H
              replace H : (if t242 ≥ a0 then (some (x6_2, true)) else (spec_FewestEggs.l0 k2 a0 a1 (wrap64 (x6_2 + 1)))) = some (r1, r2) := H
              have A9 := Aside0.mk A90
              clear A90
              by_cases c10 : t242 ≥ a0
              · rw [if_pos c10] at H
                have c10b0 : decide (a0 ≤ t242) = true := decide_eq_true c10
                clear c10
                simp only [Option.some.injEq, Prod.mk.injEq] at H
                obtain ⟨rfl, rfl⟩ := H
                go_wp2_with (first | ((with_reducible refine gate_callee (f := 53) rfl ?_); refine goesL_ (some 21) rfl rfl Try.func53 (by kernel_rfl) rfl #[.int .i64 x6_2, .int .i64 a1] rfl (by (try simp only [List.map_toArray, List.map_cons, List.map_nil]); first | done | rfl | (simp only [List.length_drop, List.length_take]; rfl)) ?_; (with_reducible refine (spec_flReach.calls k2 x6_2 a1 t242 _ A9.out).mono ?_); rintro e w11 ⟨rfl, hb⟩; refine ⟨_, rfl, ?_⟩; have n0_ := Aside0.mk (below_step (by repeat (first | (with_reducible first | exact HB.out | apply below_alloc | apply pw_below_drewN | apply below_drew1) | exact HB.out)) hb); clear HB; have HB := n0_; clear n0_; (try clear hb); (try clear hb2); (try clear hk); (try clear hi)))
                go_ret2
                exact ⟨by first | rfl | (simp [errW_none, errW_some] <;> rfl) | (simp [*, errW_none, errW_some] <;> rfl), by repeat (first | (with_reducible first | exact HB.out | apply below_alloc | apply pw_below_drewN | apply below_drew1) | exact HB.out)⟩
              · rw [if_neg c10] at H
                have c10b0 : decide (a0 ≤ t242) = false := decide_eq_false c10
                clear c10
                have H' := Aside0.mk H
                clear H
                go_wp2_with (first | ((with_reducible refine gate_callee (f := 53) rfl ?_); refine goesL_ (some 21) rfl rfl Try.func53 (by kernel_rfl) rfl #[.int .i64 x6_2, .int .i64 a1] rfl (by (try simp only [List.map_toArray, List.map_cons, List.map_nil]); first | done | rfl | (simp only [List.length_drop, List.length_take]; rfl)) ?_; (with_reducible refine (spec_flReach.calls k2 x6_2 a1 t242 _ A9.out).mono ?_); rintro e w12 ⟨rfl, hb⟩; refine ⟨_, rfl, ?_⟩; have n0_ := Aside0.mk (below_step (by repeat (first | (with_reducible first | exact HB.out | apply below_alloc | apply pw_below_drewN | apply below_drew1) | exact HB.out)) hb); clear HB; have HB := n0_; clear n0_; (try clear hb); (try clear hb2); (try clear hk); (try clear hi)))
                go_roundg k2
                case measure => have := HJ2.out; have := HK2.out; omega
                case rel => exact ⟨(wrap64 (x6_2 + 1)), (by first | rfl | (simp; done) | (simp [*]; done)), H', ⟨by have := HJ2.out; have := HK2.out; omega⟩, ⟨by repeat (first | (with_reducible first | exact HB.out | apply below_alloc | apply pw_below_drewN | apply below_drew1) | exact HB.out)⟩⟩
            · rw [if_neg c8] at H
              have c8b0 : decide (x6_2 ≤ 10) = false := decide_eq_false c8
              clear c8
              simp only [Option.some.injEq, Prod.mk.injEq] at H
              obtain ⟨rfl, rfl⟩ := H
              go_wp2
              go_ret2
              exact ⟨by first | rfl | (simp [errW_none, errW_some] <;> rfl) | (simp [*, errW_none, errW_some] <;> rfl), by repeat (first | (with_reducible first | exact HB.out | apply below_alloc | apply pw_below_drewN | apply below_drew1) | exact HB.out)⟩

/-! behind spec_FewestEggs -/
theorem feE_l0 (n : Int) (t : Nat) (ht : t ≤ 1000) : ∀ (d k e : Nat), 11 - e = d → 1 ≤ e → e ≤ 11 → 20000 + d < k → spec_FewestEggs.l0 k n (t : Int) (e : Int) = some (match feE n t d e with | some e => ((e : Int), true) | none => (0, false))
  | 0, k, e, hd, h1, h2, hk => by
    obtain ⟨k, rfl⟩ : ∃ m, k = m + 1 := ⟨k - 1, by omega⟩
    rw [spec_FewestEggs.l0, if_neg (by omega)]
    rfl
  | d + 1, k, e, hd, h1, h2, hk => by
    obtain ⟨k, rfl⟩ : ∃ m, k = m + 1 := ⟨k - 1, by omega⟩
    have e2 : wrap64 ((e : Int) + 1) = ((e + 1 : Nat) : Int) := by unfold wrap64; omega
    rw [spec_FewestEggs.l0, if_pos (by clear e2; omega), spec_flReach_is e t (by clear e2; omega) ht k (by clear e2; omega), Option.bind_some, feE, e2]
    by_cases h : rch t e ≥ n
    · rw [if_pos h, if_pos h]
    · rw [if_neg h, if_neg h]
      exact feE_l0 n t ht d k (e + 1) (by clear e2; omega) (by clear e2; omega) (by clear e2; omega) (by clear e2; omega)
theorem feE_some (n : Int) (t : Nat) : ∀ (d e q : Nat), feE n t d e = some q → e ≤ q ∧ q < e + d ∧ n ≤ rch t q ∧ ∀ j, e ≤ j → j < q → rch t j < n
  | 0, e, q, h => by simp [feE] at h
  | d + 1, e, q, h => by
    rw [feE] at h
    by_cases hc : rch t e ≥ n
    · rw [if_pos hc] at h
      obtain rfl := Option.some.inj h
      exact ⟨by omega, by omega, hc, fun j h1 h2 => by omega⟩
    · rw [if_neg hc] at h
      obtain ⟨h1, h2, h3, h4⟩ := feE_some n t d (e + 1) q h
      refine ⟨by omega, by omega, h3, fun j h5 h6 => ?_⟩
      by_cases hj : j = e
      · subst hj; omega
      · exact h4 j (by omega) h6
theorem fewestEggs_both (f t : Int) : ∃ r b, impl_FewestEggs.f f t = some (r, b) ∧ spec_FewestEggs.f 40000 f t = some (r, b) ∧
    (b = true → ∃ q fn tn : Nat, r = (q : Int) ∧ f = (fn : Int) ∧ t = (tn : Int) ∧ 1 ≤ q ∧ q ≤ 10 ∧ fn ≤ 1000 ∧ tn ≤ 1000 ∧ few q fn ≤ tn ∧ (1 < q → tn < few (q - 1) fn)) := by
  by_cases h : ((decide (0 ≤ f) && decide (f ≤ 1000)) && (decide (0 ≤ t) && decide (t ≤ 1000))) = true
  · have h' := h
    simp only [Bool.and_eq_true, decide_eq_true_eq] at h'
    obtain ⟨fn, rfl⟩ : ∃ m : Nat, f = m := ⟨f.toNat, by omega⟩
    obtain ⟨tn, rfl⟩ : ∃ m : Nat, t = m := ⟨t.toNat, by omega⟩
    have hl := feE_l0 (fn : Int) tn (by omega) 10 39999 1 (by omega) (by omega) (by omega) (by omega)
    have hl' : spec_FewestEggs.l0 39999 (fn : Int) (tn : Int) 1 = _ := hl
    have hs : spec_FewestEggs.f 40000 fn tn = some (match feE fn tn 10 1 with | some e => ((e : Int), true) | none => (0, false)) := by
      unfold spec_FewestEggs.f
      rw [spec_flFloors_is, decide_eq_true (by omega), decide_eq_true (by omega), Bool.and_true, Option.bind_some, if_pos rfl, spec_l1In_is, decide_eq_true (by omega), decide_eq_true (by omega), Bool.and_true, Option.bind_some, spec_FewestEggs.j0, if_neg (by decide)]
      exact hl'
    have hi : impl_FewestEggs.f fn tn = some (match feE fn tn 10 1 with | some e => ((e : Int), true) | none => (0, false)) := by
      unfold impl_FewestEggs.f
      rw [if_pos h, Int.toNat_natCast]
      try rfl
    rw [hs, hi]
    cases hq : feE (fn : Int) tn 10 1 with
    | none => exact ⟨0, false, rfl, rfl, fun h => by cases h⟩
    | some q =>
      refine ⟨(q : Int), true, rfl, rfl, fun _ => ?_⟩
      obtain ⟨q1, q2, q3, q4⟩ := feE_some (fn : Int) tn 10 1 q hq
      refine ⟨q, fn, tn, rfl, rfl, rfl, q1, by omega, by omega, by omega, ?_, fun hq1 => ?_⟩
      · by_cases h9 : tn < 1000
        · exact (few_le_iff q fn tn h9).2 q3
        · have := few_le q (fn : Int); omega
      · have := q4 (q - 1) (by omega) (by omega)
        by_cases h9 : tn < 1000
        · have h8 := few_le_iff (q - 1) (fn : Int) tn h9
          omega
        · have := rch_lin tn (q - 1) (by omega) (by omega)
          omega
  · refine ⟨0, false, ?_, ?_, fun h => by cases h⟩
    · unfold impl_FewestEggs.f
      rw [if_neg h]
    · unfold spec_FewestEggs.f
      rw [spec_flFloors_is, Option.bind_some]
      cases h1 : (decide (0 ≤ f) && decide (f ≤ 1000)) with
      | false => rfl
      | true =>
        rw [h1, Bool.true_and] at h
        rw [if_pos rfl, spec_l1In_is, Option.bind_some, Bool.eq_false_iff.mpr h]
        rfl

end Go.Proofs.Ytfelkkonjbhkjaa.PrintA
