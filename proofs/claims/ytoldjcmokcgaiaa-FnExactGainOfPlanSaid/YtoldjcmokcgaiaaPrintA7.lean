-- written by this session's own driver (wip/gen.py) with the kit's print and contracts of our own
import Derived.Test.YtoldjcmokcgaiaaPrintA0
import Derived.Test.YtoldjcmokcgaiaaPrintA1
import Derived.Test.YtoldjcmokcgaiaaPrintA2
import Derived.Test.YtoldjcmokcgaiaaPrintA3
import Derived.Test.YtoldjcmokcgaiaaPrintA4
import Derived.Test.YtoldjcmokcgaiaaPrintA6
namespace Go.Proofs.Ytoldjcmokcgaiaa.PrintA
open Go.RowKit Go.Proofs.YtoldjcmokcgaiaaLib Go.Proofs.YtoldjcmokcgaiaaW.PrintWords Go.Proofs.YtoldjcmokcgaiaaW.PrintLast Go.Proofs.YtoldjcmokcgaiaaW.PrintMore
attribute [local go_sem] max2_int min2_int max_two min_two max_three min_three max_four min_four   -- for this text's walks alone
set_option linter.unusedVariables false
set_option linter.unusedSimpArgs false

/-! ### spec_hoTable: function 19, a contract of our own -/
-- LIB Houses
theorem hrep_set (n i : Nat) (hi : i < n) : (List.replicate i (-1) ++ List.replicate (n - i) 0 : List Int).set i (-1) = List.replicate (i + 1) (-1) ++ List.replicate (n - (i + 1)) 0 := by
  rw [List.set_append_right _ _ (by rw [List.length_replicate]; exact Nat.le_refl _), List.length_replicate, Nat.sub_self, show n - i = (n - (i + 1)) + 1 by omega, List.replicate_succ, List.set_cons_zero, List.replicate_succ', List.append_assoc]
  rfl
set_option maxHeartbeats 8000000 in
set_option maxRecDepth 100000 in
theorem hoTable_calls (w : World) : Calls Try.prog 19 #[] w fun e w' => ∃ g c, e = .returned (.slice (some ⟨g, 0, none⟩) 5103 c) ∧ Kd.R (Kd.int .i64) 3 w' w.heap.size (fun _ => True) (.slice (some ⟨g, 0, none⟩) 5103 c) hTab0 ∧ Below w.heap.size w w' := by
  have HB := Aside0.mk (Below.refl w.heap.size w)
  obtain ⟨y, hy⟩ : ∃ y : List Int, y = List.replicate (5103 : Int).toNat 0 := ⟨_, rfl⟩
  have Hy := Aside0.mk hy
  obtain ⟨n, hn⟩ : ∃ n, y.length = n := ⟨_, rfl⟩
  have hnn : n = 5103 := by rw [← hn, hy, List.length_replicate]; rfl
  have HN := Aside0.mk hn
  have hn1 : 0 < n := by omega
  have hn2 : n ≤ 5103 := by omega
  have HNN := Aside0.mk hnn
  have HY0 : Aside0 (y = List.replicate 0 (-1) ++ List.replicate (n - 0) 0) := ⟨by rw [hy, hnn]; rfl⟩
  have HRS := Aside0.mk (hrep_set n)
  have HLEN : Aside0 (∀ i, i ≤ n → (List.replicate i (-1) ++ List.replicate (n - i) 0 : List Int).length = n) := ⟨fun i hi => by rw [List.length_append, List.length_replicate, List.length_replicate]; omega⟩
  clear hy hn hnn
  go_enter Try.func19, Try.ntmps19
  go_wp2
  go_loopg [1, 2] 3 (fun gg v1 v2 wr => ∃ (i : Nat) (p : Int), v2 = .int .i64 i ∧ v1 = .int .i64 p ∧ ((i = 0 ∧ p = 7) ∨ (i = 1 ∧ p = 63) ∨ (i = 2 ∧ p = 567) ∨ (i = 3 ∧ p = 5103)) ∧ 3 - i ≤ gg ∧ Aside0 (Below w.heap.size w wr))
  case atStart => exact ⟨0, 7, rfl, rfl, Or.inl ⟨rfl, rfl⟩, Nat.le_refl _, HB⟩
  case round =>
    clear HB
    obtain ⟨i, p, rfl, rfl, hip, hgg, HB⟩ := hrel
    rcases hip with ⟨rfl, rfl⟩ | ⟨rfl, rfl⟩ | ⟨rfl, rfl⟩ | ⟨rfl, rfl⟩
    · go_wp2
      go_roundg 2
      case measure => omega
      case rel => exact ⟨1, 63, by go_num, by go_num, Or.inr (Or.inl ⟨rfl, rfl⟩), by omega, HB⟩
    · go_wp2
      go_roundg 1
      case measure => omega
      case rel => exact ⟨2, 567, by go_num, by go_num, Or.inr (Or.inr (Or.inl ⟨rfl, rfl⟩)), by omega, HB⟩
    · go_wp2
      go_roundg 0
      case measure => omega
      case rel => exact ⟨3, 5103, by go_num, by go_num, Or.inr (Or.inr (Or.inr ⟨rfl, rfl⟩)), by omega, HB⟩
    · skip
      go_wp2_with ((with_reducible refine gate_dst (N := 12) rfl ?_); refine Kd.R_make (Kd.int .i64) _ 3 rfl (N := 12) rfl 22 _ _ rfl 5103 rfl rfl Try.underlying22 (.int .i64 0) 8 info3 rfl (by decide) (by omega) 0 (ok := fun _ => True) (okp := fun _ => True) rfl (fun _ hk => hk) trivial (by decide) (by decide) (Below.refl _ _) (Nat.le_refl _) ?_; intro v_ w4 ho5 hb hg_ hnew_; clear hg_ hnew_; rw [← Hy.out] at ho5; have n0_ := Aside0.mk (Kd.R_lower ho5 (below_size HB.out)); have n1_ := Aside0.mk (below_step HB.out hb); clear HB hb ho5; have HO := n0_; have HB := n1_; clear n0_ n1_; obtain ⟨A_, c_, eo_⟩ := Kd.R_slice HO.out; rw [HN.out] at eo_; subst eo_)
      have hform := Kd.R_form HO.out (by rw [HN.out]; exact hn1)
      obtain ⟨g, c, hv, hg0, _⟩ := hform
      rw [HN.out] at hv
      obtain ⟨rfl, _, rfl⟩ := Value.slice.inj hv
      have HG := Aside0.mk hg0
      clear hv hg0
      go_loopg [4, 15] n (fun gg _ v15 wr => ∃ (i : Nat) (L : List Int), v15 = .int .i64 i ∧ i ≤ n ∧ n - i ≤ gg ∧ Aside0 (L = List.replicate i (-1) ++ List.replicate (n - i) 0) ∧ Aside0 (Kd.R (Kd.int .i64) 3 wr w.heap.size (fun _ => True) (.slice (some ⟨g, 0, none⟩) n c_) L) ∧ Aside0 (Below w.heap.size w wr))
      case atStart => exact ⟨0, y, rfl, Nat.zero_le _, Nat.le_refl _, HY0, HO, HB⟩
      case round =>
        clear HO HB
        obtain ⟨i, L, rfl, hi, hgg, HL, HO, HB⟩ := hrel
        by_cases hlt : i < n
        · have hltz : (i : Int) < (n : Int) := by omega
          obtain ⟨hx0, hf0⟩ := Kd.R_celln 0 HO.out (i : Int) (by omega) (by omega)
          have HP := Aside0.mk (Kd.R_putg HO.out (i : Int) (-1))
          rw [Int.toNat_natCast] at hx0 hf0 HP
          obtain ⟨L2, hL2⟩ : ∃ L2, L2 = L.set i (-1) := ⟨_, rfl⟩
          have HL2 : Aside0 (L2 = List.replicate (i + 1) (-1) ++ List.replicate (n - (i + 1)) 0) := ⟨by rw [hL2, HL.out, HRS.out i hlt]⟩
          rw [← hL2] at HP
          clear hL2 HL
          go_wp2
          go_roundg (n - (i + 1))
          case measure => omega
          case rel => exact ⟨i + 1, L2, by go_num, by omega, by omega, HL2, ⟨HP.out.1⟩, ⟨below_set HB.out HG.out⟩⟩
        · have hltz : ¬ (i : Int) < (n : Int) := by omega
          obtain rfl : i = n := by omega
          have hnn := HNN.out
          have hL : L = hTab0 := by rw [HL.out, hnn, Nat.sub_self, List.replicate_zero, List.append_nil]; rfl
          clear HL HLEN HRS HY0
          go_wp2
          go_ret
          subst hnn
          exact ⟨_, _, rfl, by rw [← hL]; exact HO.out, HB.out⟩

/-! ### spec_FewestForHouses: function 6, a contract of our own -/
def hGood (l : List Int) : Bool := (decide (1 ≤ l.length) && decide (l.length ≤ 3)) && l.all (fun x => decide (0 ≤ x) && decide (x ≤ 8))
def hAsk (e : Int) (l : List Int) : Bool := hGood l && (decide (hNeed l ≤ e) && decide (e ≤ 6))
theorem hGood_true {l : List Int} (h : hGood l = true) : 1 ≤ l.length ∧ l.length ≤ 3 ∧ hOk l := by
  unfold hGood at h
  simp only [Bool.and_eq_true, decide_eq_true_eq, List.all_eq_true] at h
  exact ⟨h.1.1, h.1.2, h.2⟩
theorem hAsk_true {e : Int} {l : List Int} (h : hAsk e l = true) : 1 ≤ l.length ∧ l.length ≤ 3 ∧ hOk l ∧ hNeed l ≤ e ∧ e ≤ 6 := by
  unfold hAsk at h
  rw [Bool.and_eq_true, Bool.and_eq_true, decide_eq_true_eq, decide_eq_true_eq] at h
  obtain ⟨h1, h2, h3⟩ := hGood_true h.1
  exact ⟨h1, h2, h3, h.2.1, h.2.2⟩
theorem hoGood_is (l : List Int) (hl : l.length ≤ 1000000) (k : Nat) (hk : l.length < k) : spec_hoGood.f k l = some (hGood l) ∧ impl_AreHouses.f l = some (hGood l) := by
  obtain ⟨b, h1, h2, _⟩ := spec_hoGood_is l hl k hk
  have h3 : impl_AreHouses.f l = some (hGood l) := by unfold impl_AreHouses.f; rw [if_pos (by omega)]; rfl
  rw [h3] at h2
  rw [← Option.some.inj h2] at h1
  exact ⟨h1, h3⟩
theorem hoNeeded_isk (l : List Int) (h3 : l.length ≤ 3) (k : Nat) (hk : l.length < k) : spec_hoNeeded.f k l = some (hNeed l) := by
  unfold spec_hoNeeded.f
  have := hoNeeded_go l (by omega) l.length k 0 0 (Int.le_refl _) (by simp) (Nat.zero_le _) (by omega) hk
  simpa using this
theorem hoAsked_is (e : Int) (l : List Int) (hl : l.length ≤ 1000000) (k : Nat) (hk : l.length < k) : spec_hoAsked.f k e l = some (hAsk e l) := by
  unfold spec_hoAsked.f hAsk
  rw [(hoGood_is l hl k hk).1, Option.bind_some]
  cases hg : hGood l with
  | true =>
    rw [if_pos rfl, hoNeeded_isk l (hGood_true hg).2.1 k hk, Option.bind_some, spec_l1In_is]
    rfl
  | false => rfl
theorem slice_ownH (g n c : Nat) : (Value.slice (some ⟨g, 0, none⟩) n c).ownBlock = some g := by simp [Value.ownBlock]
def spec_FewestForHouses.f (a0 : Int) (l1 : List Int) : Option (Int × Bool) := if l1.length ≤ 1000000 then some (if hAsk a0 l1 = true then hVal a0 l1 else 0, hAsk a0 l1) else none
set_option maxHeartbeats 8000000 in
set_option maxRecDepth 100000 in
theorem spec_FewestForHouses.calls (a0 : Int) (A1 : Option Addr) (c1 : Nat) (l1 : List Int) (r1 : Int) (r2 : Bool) (w : World) (hr1 : Kd.C (Kd.int .i64) w A1 l1.length l1) (hc1 : l1.length ≤ c1) (h : spec_FewestForHouses.f a0 l1 = some (r1, r2)) :
    Calls Try.prog 6 #[.int .i64 a0, .slice A1 l1.length c1] w fun e w' => e = .returned (.tuple #[.int .i64 r1, .bool r2]) ∧ Below w.heap.size w w' := by
  have HB := Aside0.mk (Below.refl w.heap.size w)
  unfold spec_FewestForHouses.f at h
  by_cases hl : l1.length ≤ 1000000
  case neg => rw [if_neg hl] at h; cases h
  rw [if_pos hl] at h
  obtain ⟨hq1, hq2⟩ := Prod.mk.inj (Option.some.inj h)
  have HG : Aside0 (∀ W, Below w.heap.size w W → Calls Try.prog 17 #[.int .i64 a0, .slice A1 l1.length c1] W fun e w' => e = .returned (.bool (hAsk a0 l1)) ∧ Below W.heap.size W w') := ⟨fun W hb => (spec_hoAsked.calls (l1.length + 1) a0 A1 c1 l1 _ W (Kd.C_below hr1 hb) hc1 (hoAsked_is a0 l1 hl _ (by omega))).mono (by
    rintro e_ w_ ⟨rfl, hd⟩
    exact ⟨rfl, drawn_below hd⟩)⟩
  subst hq2
  clear h
  cases hgd : hAsk a0 l1 with
  | true =>
    rw [hgd] at HG
    rw [if_pos hgd] at hq1
    obtain ⟨g1, g2, g3, g4, g5⟩ := hAsk_true hgd
    have hval := (hVal_24 a0 l1 g3 g2 g4).2
    have hnn := hNeed_nonneg l1
    have HF : Aside0 (∀ (g c : Nat) (W : World), Below w.heap.size w W → Kd.R (Kd.int .i64) 3 W w.heap.size (fun _ => True) (.slice (some ⟨g, 0, none⟩) 5103 c) hTab0 → Calls Try.prog 18 #[.slice (some ⟨g, 0, none⟩) 5103 c, .int .i64 a0, .slice A1 l1.length c1] W fun e' w' => e' = .returned (.int .i64 r1) ∧ Below w.heap.size w w') := ⟨fun g c W hb hr => by
      have hge := Kd.R_base hr g (slice_ownH _ _ _)
      have := HfC_all 25 5103 a0 l1 l1.length g c hTab0 A1 c1 w W rfl rfl g1 g2 g3 (by omega) g5 (by have := hSum_le3 l1 g3 g2; omega) HTab.start hb (r_int_ok hr (fun k hk => by rw [slice_ownH] at hk; injection hk with hk; exact hk.symm)) hc1 (Kd.C_kept_came (Kd.heap_int _) hr1 hb (fun k_ hk_ => by rw [hk_]; exact hge))
      refine this.mono ?_
      rintro e_ w_ ⟨t', rfl, _, _, h3, _⟩
      exact ⟨by rw [hval, hq1], h3⟩⟩
    clear hgd hq1 hval hnn g1 g2 g3 g4 g5 hr1 hl
    go_enter Try.func6, Try.ntmps6
    go_wp2_with (first
      | (go_at_call 17; with_reducible refine (HG.out _ HB.out).mono ?_; rintro e_ w2 ⟨rfl, hb⟩; have n0_ := Aside0.mk (below_step HB.out hb); clear HB hb; have HB := n0_; clear n0_)
      | (go_at_call 19; with_reducible refine (hoTable_calls _).mono ?_; rintro e_ w3 ⟨g, c, rfl, hr, hb⟩; have HR := Aside0.mk (Kd.R_lower hr (below_size HB.out)); have n0_ := Aside0.mk (below_step HB.out hb); clear HB hb hr; have HB := n0_; clear n0_)
      | (go_at_call 18; with_reducible refine (HF.out _ _ _ HB.out HR.out).mono ?_; rintro e_ w4 ⟨rfl, hb⟩; have n0_ := Aside0.mk hb; clear HB hb; have HB := n0_; clear n0_))
    go_ret2
    exact ⟨rfl, HB.out⟩
  | false =>
    rw [hgd] at HG
    rw [if_neg (by rw [hgd]; decide)] at hq1
    subst hq1
    clear hgd hr1 hl
    go_enter Try.func6, Try.ntmps6
    go_wp2_with (go_at_call 17; with_reducible refine (HG.out _ HB.out).mono ?_; rintro e_ w2 ⟨rfl, hb⟩; have n0_ := Aside0.mk (below_step HB.out hb); clear HB hb; have HB := n0_; clear n0_)
    go_ret2
    exact ⟨rfl, HB.out⟩

/-! ### laws_roomBehind: function 20 -/
def laws_roomBehind.f (a0 : Int) : Option (Int) := if (Int.tmod a0 6) = 5 then (some 0) else (if (Int.tmod a0 3) = 0 then (some 1) else (some a0))
set_option maxHeartbeats 8000000 in
set_option maxRecDepth 100000 in
theorem laws_roomBehind.calls (a0 : Int) (r : Int) (w : World) (h : laws_roomBehind.f a0 = some r) :
    Calls Try.prog 20 #[.int .i64 a0] w fun e w' => e = .returned (.int .i64 r) ∧ Drawn0 w w' := by
  have H : (if (Int.tmod a0 6) = 5 then (some 0) else (if (Int.tmod a0 3) = 0 then (some 1) else (some a0))) = some r := h
  clear h
  by_cases c2 : (Int.tmod a0 6) = 5
  · rw [if_pos c2] at H
    have c2b0 : ((Int.tmod a0 6) == 5) = true := beq_iff_eq.mpr c2
    have c2b1 : ((Int.tmod a0 6) != 5) = false := bne_eq_false_iff_eq.mpr c2
    clear c2
    obtain rfl := Option.some.inj H
    go_enter Try.func20, Try.ntmps20
    go_wp2
    go_ret
    exact ⟨by first | rfl | (simp; done) | (simp [*]; done), by repeat (first | exact Drawn0.refl _ | apply Drawn0.step)⟩
  · rw [if_neg c2] at H
    have c2b0 : ((Int.tmod a0 6) == 5) = false := beq_eq_false_iff_ne.mpr c2
    have c2b1 : ((Int.tmod a0 6) != 5) = true := bne_iff_ne.mpr c2
    by_cases c3 : (Int.tmod a0 3) = 0
    · rw [if_pos c3] at H
      have c3b0 : ((Int.tmod a0 3) == 0) = true := beq_iff_eq.mpr c3
      have c3b1 : ((Int.tmod a0 3) != 0) = false := bne_eq_false_iff_eq.mpr c3
      clear c3
      obtain rfl := Option.some.inj H
      go_enter Try.func20, Try.ntmps20
      go_wp2
      go_ret
      exact ⟨by first | rfl | (simp; done) | (simp [*]; done), by repeat (first | exact Drawn0.refl _ | apply Drawn0.step)⟩
    · rw [if_neg c3] at H
      have c3b0 : ((Int.tmod a0 3) == 0) = false := beq_eq_false_iff_ne.mpr c3
      have c3b1 : ((Int.tmod a0 3) != 0) = true := bne_iff_ne.mpr c3
      obtain rfl := Option.some.inj H
      go_enter Try.func20, Try.ntmps20
      go_wp2
      go_ret
      exact ⟨by first | rfl | (simp; done) | (simp [*]; done), by repeat (first | exact Drawn0.refl _ | apply Drawn0.step)⟩

set_option maxHeartbeats 8000000 in
set_option maxRecDepth 100000 in
theorem laws_roomBehind.calls0 (a0 : Int) (r : Int) (w : World) (h : laws_roomBehind.f a0 = some r) :
    Calls Try.prog 20 #[.int .i64 a0] w fun e w' => e = .returned (.int .i64 r) ∧ w = w' := by
  have H : (if (Int.tmod a0 6) = 5 then (some 0) else (if (Int.tmod a0 3) = 0 then (some 1) else (some a0))) = some r := h
  clear h
  by_cases c2 : (Int.tmod a0 6) = 5
  · rw [if_pos c2] at H
    have c2b0 : ((Int.tmod a0 6) == 5) = true := beq_iff_eq.mpr c2
    have c2b1 : ((Int.tmod a0 6) != 5) = false := bne_eq_false_iff_eq.mpr c2
    clear c2
    obtain rfl := Option.some.inj H
    go_enter Try.func20, Try.ntmps20
    go_wp2
    go_ret
    exact ⟨by first | rfl | (simp; done) | (simp [*]; done), by first | rfl | simp⟩
  · rw [if_neg c2] at H
    have c2b0 : ((Int.tmod a0 6) == 5) = false := beq_eq_false_iff_ne.mpr c2
    have c2b1 : ((Int.tmod a0 6) != 5) = true := bne_iff_ne.mpr c2
    by_cases c3 : (Int.tmod a0 3) = 0
    · rw [if_pos c3] at H
      have c3b0 : ((Int.tmod a0 3) == 0) = true := beq_iff_eq.mpr c3
      have c3b1 : ((Int.tmod a0 3) != 0) = false := bne_eq_false_iff_eq.mpr c3
      clear c3
      obtain rfl := Option.some.inj H
      go_enter Try.func20, Try.ntmps20
      go_wp2
      go_ret
      exact ⟨by first | rfl | (simp; done) | (simp [*]; done), by first | rfl | simp⟩
    · rw [if_neg c3] at H
      have c3b0 : ((Int.tmod a0 3) == 0) = false := beq_eq_false_iff_ne.mpr c3
      have c3b1 : ((Int.tmod a0 3) != 0) = true := bne_iff_ne.mpr c3
      obtain rfl := Option.some.inj H
      go_enter Try.func20, Try.ntmps20
      go_wp2
      go_ret
      exact ⟨by first | rfl | (simp; done) | (simp [*]; done), by first | rfl | simp⟩

end Go.Proofs.Ytoldjcmokcgaiaa.PrintA
