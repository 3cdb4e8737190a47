-- written by this session's own driver (wip/gen.py) with the kit's print and contracts of our own
import Derived.Test.YtoldjcmokcgaiaaPrintA0
import Derived.Test.YtoldjcmokcgaiaaPrintA1
import Derived.Test.YtoldjcmokcgaiaaPrintA4
import Derived.Test.YtoldjcmokcgaiaaPrintA5
import Derived.Test.YtoldjcmokcgaiaaPrintA8
import Derived.Test.YtoldjcmokcgaiaaPrintA9
import Derived.Test.YtoldjcmokcgaiaaPrintA13
import Derived.Test.YtoldjcmokcgaiaaPrintA14
import Derived.Test.YtoldjcmokcgaiaaPrintA15
import Derived.Test.YtoldjcmokcgaiaaPrintA17
import Derived.Test.YtoldjcmokcgaiaaPrintA18
namespace Go.Proofs.Ytoldjcmokcgaiaa.PrintA
open Go.RowKit Go.Proofs.YtoldjcmokcgaiaaLib Go.Proofs.YtoldjcmokcgaiaaW.PrintWords Go.Proofs.YtoldjcmokcgaiaaW.PrintLast Go.Proofs.YtoldjcmokcgaiaaW.PrintMore
attribute [local go_sem] max2_int min2_int max_two min_two max_three min_three max_four min_four   -- for this text's walks alone
set_option linter.unusedVariables false
set_option linter.unusedSimpArgs false

/-! ### spec_HouseTable: function 10, a contract of our own -/
theorem hNeed_le : ∀ l : List Int, hNeed l ≤ l.length
  | [] => Int.le_refl _
  | x :: r => by
    have := hNeed_le r
    rw [hNeed, List.length_cons]
    split <;> omega
/-- The least numbers of drops with more and more eggs. -/
def hTb (l : List Int) (i : Nat) : List Int := (List.range i).map (fun (j : Nat) => hVal (hNeed l + (j : Int)) l)
theorem hTb_succ (l : List Int) (i : Nat) : hTb l (i + 1) = hTb l i ++ [hVal (hNeed l + (i : Int)) l] := by
  unfold hTb
  rw [List.range_succ, List.map_append]
  rfl
theorem hTb_len (l : List Int) (i : Nat) : (hTb l i).length = i := by unfold hTb; rw [List.length_map, List.length_range]
theorem tab_after {W w1 : World} {b g : Nat} {v v1 tv : Value} {tb acc : List Int} (hR : Kd.R (Kd.int .i64) 3 W b (fun k_ => k_ = g) tv tb) (hO : Kd.R (Kd.int .i64) 3 W b (fun k_ => k_ ≠ g) v acc) (hg : W.grownBy w1 v.ownBlock) (hat : v1.ownBlock = v.ownBlock ∨ ∃ b, v1.ownBlock = some b ∧ W.heap.size ≤ b) : Kd.R (Kd.int .i64) 3 w1 b (fun k_ => k_ = g) tv tb := by
  have h1 : Kd.R (Kd.int .i64) 3 W b (fun k_ => k_ = g ∧ some k_ ≠ v.ownBlock) tv tb := Kd.R_mono hR (fun k hk => ⟨hk, fun he => (hO.1 k he.symm) hk⟩)
  exact Kd.R_mono (Kd.R_after (ok := fun k_ => k_ = g) h1 hg hat) (fun k hk => hk.1)
theorem out_kept {W w' : World} {b g : Nat} {v : Value} {acc : List Int} (hO : Kd.R (Kd.int .i64) 3 W b (fun k_ => k_ ≠ g) v acc) (hk : Kept W w' (fun k_ => k_ = g)) : Kd.R (Kd.int .i64) 3 w' b (fun k_ => k_ ≠ g) v acc :=
  Kd.R_kept (S := fun k_ => k_ = g) hO hk (fun k_ h1_ h2_ => h1_ h2_)
theorem fresh_of {W : World} {g : Nat} (h : g < W.heap.size) : ∀ k_, W.heap.size ≤ k_ → k_ ≠ g := fun k_ h1 h2 => by omega
def spec_HouseTable.f (l0 : List Int) : Option (List Int × Bool) := if l0.length ≤ 1000000 then some (if hGood l0 = true then hTb l0 (7 - hNeed l0).toNat else [], hGood l0) else none
set_option maxHeartbeats 8000000 in
set_option maxRecDepth 100000 in
theorem spec_HouseTable.calls (A0 : Option Addr) (c0 : Nat) (l0 : List Int) (r1 : List Int) (r2 : Bool) (w : World) (hr0 : Kd.C (Kd.int .i64) w A0 l0.length l0) (hc0 : l0.length ≤ c0) (h : spec_HouseTable.f l0 = some (r1, r2)) :
    Calls Try.prog 10 #[.slice A0 l0.length c0] w fun e w' => ∃ v0_ : Value, e = .returned (.tuple #[v0_, .bool r2]) ∧ Kd.R (Kd.int .i64) 3 w' w.heap.size (fun _ => True) v0_ r1 ∧ Below w.heap.size w w' := by
  have HB := Aside0.mk (Below.refl w.heap.size w)
  unfold spec_HouseTable.f at h
  by_cases hl : l0.length ≤ 1000000
  case neg => rw [if_neg hl] at h; cases h
  rw [if_pos hl] at h
  obtain ⟨hq1, hq2⟩ := Prod.mk.inj (Option.some.inj h)
  have HG : Aside0 (∀ W, Below w.heap.size w W → Calls Try.prog 24 #[.slice A0 l0.length c0] W fun e w' => e = .returned (.bool (hGood l0)) ∧ Below W.heap.size W w') := ⟨fun W hb => (spec_hoGood.calls (l0.length + 1) A0 c0 l0 _ W (Kd.C_below hr0 hb) hc0 (hoGood_is l0 hl _ (by omega)).1).mono (by
    rintro e_ w_ ⟨rfl, hd⟩
    exact ⟨rfl, drawn_below hd⟩)⟩
  subst hq2
  clear h
  cases hgd : hGood l0 with
  | true =>
    rw [hgd] at HG
    rw [if_pos hgd] at hq1
    obtain ⟨g1, g2, g3⟩ := hGood_true hgd
    have hnn := hNeed_nonneg l0
    have hn3 := hNeed_le l0
    obtain ⟨nd, hnd⟩ : ∃ nd : Nat, hNeed l0 = (nd : Int) := ⟨(hNeed l0).toNat, by omega⟩
    have hnd3 : nd ≤ 3 := by omega
    obtain ⟨N_, hN⟩ : ∃ N_, (7 - hNeed l0).toNat = N_ := ⟨_, rfl⟩
    have hNN : N_ + nd = 7 := by omega
    have HND : Aside0 (∀ W, Below w.heap.size w W → Calls Try.prog 25 #[.slice A0 l0.length c0] W fun e w' => e = .returned (.int .i64 nd) ∧ Below W.heap.size W w') := ⟨fun W hb => (spec_hoNeeded.calls 10 A0 c0 l0 (nd : Int) W (Kd.C_below hr0 hb) hc0 (by rw [← hnd]; exact hoNeeded_is l0 g2)).mono (by
      rintro e_ w_ ⟨rfl, hd⟩
      exact ⟨rfl, drawn_below hd⟩)⟩
    have HF : Aside0 (∀ (i : Nat) (g c : Nat) (t : List Int) (W : World), nd + i ≤ 6 → w.heap.size ≤ g → HTab t → Below w.heap.size w W → Kd.R (Kd.int .i64) 3 W w.heap.size (fun k_ => k_ = g) (.slice (some ⟨g, 0, none⟩) 5103 c) t → Calls Try.prog 18 #[.slice (some ⟨g, 0, none⟩) 5103 c, .int .i64 ((nd : Int) + (i : Int)), .slice A0 l0.length c0] W fun e' w' => ∃ t', e' = .returned (.int .i64 (hVal ((nd : Int) + (i : Int)) l0)) ∧ HTab t' ∧ Kd.R (Kd.int .i64) 3 w' w.heap.size (fun k_ => k_ = g) (.slice (some ⟨g, 0, none⟩) 5103 c) t' ∧ Below w.heap.size w w' ∧ Kept W w' (fun k_ => k_ = g)) := ⟨fun i g c t W h6 hge hT hb hr => by
      have hval := (hVal_24 ((nd : Int) + (i : Int)) l0 g3 g2 (by omega)).2
      rw [← hval]
      exact HfC_all 25 5103 ((nd : Int) + (i : Int)) l0 l0.length g c t A0 c0 w W rfl rfl g1 g2 g3 (by omega) (by omega) (by have := hSum_le3 l0 g3 g2; omega) hT hb hr hc0 (Kd.C_kept_came (Kd.heap_int _) hr0 hb (fun k_ hk_ => by rw [hk_]; exact hge))⟩
    have HSC : Aside0 (∀ i, hTb l0 (i + 1) = hTb l0 i ++ [hVal ((nd : Int) + (i : Int)) l0]) := ⟨fun i => by rw [hTb_succ, hnd]⟩
    have HLN : Aside0 (∀ i, i ≤ 7 → ((hTb l0 i).length + 1) * 8 ≤ 140737488355328) := ⟨fun i hi => by rw [hTb_len]; omega⟩
    rw [hN] at hq1
    have HQ1 := Aside0.mk hq1
    have HT0 := Aside0.mk HTab.start
    have HL0 : Aside0 (hTb l0 0 = []) := ⟨rfl⟩
    clear hgd hq1 hnn hn3 hnd hN g1 g2 g3 hr0 hl hc0
    generalize hTb l0 = tbl at HSC HLN HQ1 HL0
    go_enter Try.func10, Try.ntmps10
    go_wp2_with (first
      | (go_at_call 24; with_reducible refine (HG.out _ HB.out).mono ?_; rintro e_ w2 ⟨rfl, hb⟩; have n0_ := Aside0.mk (below_step HB.out hb); clear HB hb; have HB := n0_; clear n0_)
      | (go_at_call 19; with_reducible refine (hoTable_calls _).mono ?_; rintro e_ w3 ⟨g, c, rfl, hr, hb⟩; have HR := Aside0.mk (r_int_ok (ok' := fun k_ => k_ = g) (Kd.R_lower hr (below_size HB.out)) (fun k hk => by rw [slice_ownH] at hk; injection hk with hk; exact hk.symm)); have n0_ := Aside0.mk (below_step HB.out hb); clear HB hb hr; have HB := n0_; clear n0_)
      | (go_at_call 25; with_reducible refine (HND.out _ HB.out).mono ?_; rintro e_ w4 ⟨rfl, hb⟩; have n0_ := Aside0.mk (below_step HB.out hb); have n1_ := Aside0.mk (Kd.R_below HR.out hb); clear HB HR hb; have HB := n0_; have HR := n1_; clear n0_ n1_))
    have HGE := Aside0.mk (Kd.R_base HR.out g (slice_ownH _ _ _))
    have HO0 : Aside0 (Kd.R (Kd.int .i64) 3 w4 w.heap.size (fun k_ => k_ ≠ g) (.slice none 0 0) (tbl 0)) := ⟨by rw [HL0.out]; exact Kd.R_nil _ _ _ _ _⟩
    go_loopg [5, 6] N_ (fun gg v5 v6 wr => ∃ (i : Nat) (tb : List Int), v6 = .int .i64 ((nd : Int) + (i : Int)) ∧ i ≤ N_ ∧ N_ - i ≤ gg ∧ Aside0 (HTab tb) ∧ Aside0 (Kd.R (Kd.int .i64) 3 wr w.heap.size (fun k_ => k_ = g) (.slice (some ⟨g, 0, none⟩) 5103 c) tb) ∧ Aside0 (Kd.R (Kd.int .i64) 3 wr w.heap.size (fun k_ => k_ ≠ g) v5 (tbl i)) ∧ Aside0 (Below w.heap.size w wr))
    case atStart => exact ⟨0, hTab0, by simp, Nat.zero_le _, Nat.le_refl _, HT0, HR, HO0, HB⟩
    case round =>
      clear HB HR HO0 HT0
      obtain ⟨i, tb, rfl, hi, hgg, HT, HR, HO, HB⟩ := hrel
      by_cases hlt : i < N_
      · have hz1 : (nd : Int) + (i : Int) ≤ 6 := by omega
        have HFI : Aside0 (∀ (t : List Int) (W : World), HTab t → Below w.heap.size w W → Kd.R (Kd.int .i64) 3 W w.heap.size (fun k_ => k_ = g) (.slice (some ⟨g, 0, none⟩) 5103 c) t → Calls Try.prog 18 #[.slice (some ⟨g, 0, none⟩) 5103 c, .int .i64 ((nd : Int) + (i : Int)), .slice A0 l0.length c0] W fun e' w' => ∃ t', e' = .returned (.int .i64 (hVal ((nd : Int) + (i : Int)) l0)) ∧ HTab t' ∧ Kd.R (Kd.int .i64) 3 w' w.heap.size (fun k_ => k_ = g) (.slice (some ⟨g, 0, none⟩) 5103 c) t' ∧ Below w.heap.size w w' ∧ Kept W w' (fun k_ => k_ = g)) := ⟨fun t W h1 h2 h3 => HF.out i g c t W (by omega) HGE.out h1 h2 h3⟩
        have HS1 := Aside0.mk (HSC.out i)
        have HLEN := Aside0.mk (HLN.out i (by omega))
        generalize hVal ((nd : Int) + (i : Int)) l0 = x at HFI HS1
        have hw1 : IntKind.i64.wrap ((nd : Int) + (i : Int) + 1) = (nd : Int) + (i : Int) + 1 := by rw [i64_w]; unfold wrap64; omega
        go_wp2_with (first
          | (go_at_call 18; with_reducible refine (HFI.out _ _ HT.out HB.out HR.out).mono ?_; rintro e_ w5 ⟨t', rfl, hT, hr, hb, hk⟩; have n1_ := Aside0.mk (out_kept HO.out hk); clear HT HR HB HO; have HT := Aside0.mk hT; have HR := Aside0.mk hr; have HB := Aside0.mk hb; have HO := n1_; have HFR := Aside0.mk (fresh_of (Kd.R_lt HR.out g (slice_ownH _ _ _))); clear n1_ hT hr hb hk)
          | ((with_reducible refine gate_builtin (b := .append) (xs := #[.tmp 17, .tmp 22]) rfl ?_); at_builtin; refine Kd.R_append (Kd.int .i64) (w0 := w) w.heap.size rfl (.tmp 17) (.tmp 22) 22 3 (.int .i64 0) 8 rfl Try.underlying22 info3 rfl (by decide) (by omega) _ (tbl i) (x) [.int .i64 (x)] (fun k_ => k_ ≠ g) (fun _ => False) rfl rfl ?aP (fun _ hk => hk.elim) ?aF ?aO ?aB ?aS ?aL ?_; (case aP => exact rfl); (case aB => exact HB.out); (case aF => exact HFR.out); (case aO => exact HO.out); (case aS => exact HB.out.size); (case aL => exact HLEN.out); intro v_ w6 ho hb hg hat; rw [← HS1.out] at ho; have n1_ := Aside0.mk (tab_after HR.out HO.out hg hat); clear HR HO HB HFR; have HR := n1_; have HO := Aside0.mk ho; have HB := Aside0.mk hb; clear n1_ ho hb hg hat))
        go_roundg (N_ - (i + 1))
        case measure => omega
        case rel => exact ⟨i + 1, _, by rw [show (nd : Int) + ((i + 1 : Nat) : Int) = (nd : Int) + (i : Int) + 1 by clear hw1; omega], by clear hw1; omega, by clear hw1; omega, HT, HR, HO, HB⟩
      · have hz1 : ¬ (nd : Int) + (i : Int) ≤ 6 := by omega
        obtain rfl : i = N_ := by omega
        go_wp2
        go_ret2
        exact ⟨_, rfl, by rw [← HQ1.out]; exact Kd.R_mono HO.out (fun _ _ => trivial), HB.out⟩
  | false =>
    rw [hgd] at HG
    rw [if_neg (by rw [hgd]; decide)] at hq1
    subst hq1
    clear hgd hr0 hl
    go_enter Try.func10, Try.ntmps10
    go_wp2_with (go_at_call 24; with_reducible refine (HG.out _ HB.out).mono ?_; rintro e_ w2 ⟨rfl, hb⟩; have n0_ := Aside0.mk (below_step HB.out hb); clear HB hb; have HB := n0_; clear n0_)
    go_ret2
    exact ⟨_, rfl, Kd.R_nil _ _ _ _ _, HB.out⟩

/-! ### impl_HouseTable: function 11, a contract of our own -/
theorem out_far {w3 W : World} {v : Value} {l : List Int} {mb : Nat} (hr : Kd.R (Kd.int .i64) 3 w3 W.heap.size (fun _ => True) v l) (hmb : mb < W.heap.size) : Kd.R (Kd.int .i64) 3 w3 W.heap.size (fun k_ => k_ ≠ mb) v l :=
  Kd.R_mono (r_btw hr (Nat.le_refl _)) (fun k_ h1_ h2_ => by have := h1_.1; omega)
theorem memo_after {W w1 : World} {b mb : Nat} {v : Value} {acc : List Int} (hM : HMemo W mb) (hO : Kd.R (Kd.int .i64) 3 W b (fun k_ => k_ ≠ mb) v acc) (hg : W.grownBy w1 v.ownBlock) : HMemo w1 mb :=
  hM.step (hg.block mb hM.lt (fun he => (hO.1 mb he.symm) rfl))
def impl_HouseTable.f (l0 : List Int) : Option (List Int × Bool) := if l0.length ≤ 1000000 then some (if hGood l0 = true then hTb l0 (7 - hNeed l0).toNat else [], hGood l0) else none
set_option maxHeartbeats 8000000 in
set_option maxRecDepth 100000 in
theorem impl_HouseTable.calls (A0 : Option Addr) (c0 : Nat) (l0 : List Int) (r1 : List Int) (r2 : Bool) (w : World) (hr0 : Kd.C (Kd.int .i64) w A0 l0.length l0) (hc0 : l0.length ≤ c0) (h : impl_HouseTable.f l0 = some (r1, r2)) :
    Calls Try.prog 11 #[.slice A0 l0.length c0] w fun e w' => ∃ v0_ : Value, e = .returned (.tuple #[v0_, .bool r2]) ∧ Kd.R (Kd.int .i64) 3 w' w.heap.size (fun _ => True) v0_ r1 ∧ Below w.heap.size w w' := by
  have HB := Aside0.mk (Below.refl w.heap.size w)
  unfold impl_HouseTable.f at h
  by_cases hl : l0.length ≤ 1000000
  case neg => rw [if_neg hl] at h; cases h
  rw [if_pos hl] at h
  obtain ⟨hq1, hq2⟩ := Prod.mk.inj (Option.some.inj h)
  have HG : Aside0 (∀ W, Below w.heap.size w W → Calls Try.prog 26 #[.slice A0 l0.length c0] W fun e w' => e = .returned (.bool (hGood l0)) ∧ Below W.heap.size W w') := ⟨fun W hb => impl_AreHouses.calls A0 c0 l0 _ W (Kd.C_below hr0 hb) hc0 (hoGood_is l0 hl (l0.length + 1) (by omega)).2⟩
  subst hq2
  clear h
  cases hgd : hGood l0 with
  | true =>
    rw [hgd] at HG
    rw [if_pos hgd] at hq1
    obtain ⟨g1, g2, g3⟩ := hGood_true hgd
    have hnn := hNeed_nonneg l0
    have hn3 := hNeed_le l0
    obtain ⟨nd, hnd⟩ : ∃ nd : Nat, hNeed l0 = (nd : Int) := ⟨(hNeed l0).toNat, by omega⟩
    have hnd3 : nd ≤ 3 := by omega
    obtain ⟨N_, hN⟩ : ∃ N_, (7 - hNeed l0).toNat = N_ := ⟨_, rfl⟩
    have hNN : N_ + nd = 7 := by omega
    have HND : Aside0 (∀ W, Below w.heap.size w W → Calls Try.prog 27 #[.slice A0 l0.length c0] W fun e w' => e = .returned (.int .i64 nd) ∧ Below W.heap.size W w') := ⟨fun W hb => (impl_eggsNeeded.calls 10 A0 c0 l0 (nd : Int) W (Kd.C_below hr0 hb) hc0 (by rw [← hnd]; exact eggs_is l0 g2)).mono (by
      rintro e_ w_ ⟨rfl, hd⟩
      exact ⟨rfl, drawn_below hd⟩)⟩
    have HV : Aside0 (∀ (i : Nat) (W : World), Below w.heap.size w W → Calls Try.prog 23 #[.int .i64 ((nd : Int) + (i : Int)), .slice A0 l0.length c0] W fun e_ w' => e_ = .returned (hVA ((nd : Int) + (i : Int)) l0) ∧ Below W.heap.size W w') := ⟨fun i W hb => village_is _ l0 l0.length rfl g1 g2 A0 c0 W (Kd.C_below hr0 hb)⟩
    have HF : Aside0 (∀ (i mb : Nat) (W : World), nd + i ≤ 6 → HMemo W mb → Calls Try.prog 22 #[.map (some mb), hVA ((nd : Int) + (i : Int)) l0] W fun e' w' => e' = .returned (.int .i64 (hVal ((nd : Int) + (i : Int)) l0)) ∧ HMemo w' mb ∧ KeptM W w' mb) := ⟨fun i mb W h6 h => hleast_of _ l0 g1 g2 g3 (by omega) (by omega) mb W h⟩
    have HSC : Aside0 (∀ i, hTb l0 (i + 1) = hTb l0 i ++ [hVal ((nd : Int) + (i : Int)) l0]) := ⟨fun i => by rw [hTb_succ, hnd]⟩
    have HLN : Aside0 (∀ i, i ≤ 7 → ((hTb l0 i).length + 1) * 8 ≤ 140737488355328) := ⟨fun i hi => by rw [hTb_len]; omega⟩
    rw [hN] at hq1
    have HQ1 := Aside0.mk hq1
    have HL0 : Aside0 (hTb l0 0 = []) := ⟨rfl⟩
    clear hgd hq1 hnn hn3 hnd hN g1 g2 g3 hr0 hl hc0
    generalize hTb l0 = tbl at HSC HLN HQ1 HL0
    have hmm := @run_makeMap Try.prog
    go_enter Try.func11, Try.ntmps11
    go_wp2_with (first
      | (go_at_call 26; with_reducible refine (HG.out _ HB.out).mono ?_; rintro e_ w2 ⟨rfl, hb⟩; have n0_ := Aside0.mk (below_step HB.out hb); have n1_ := Aside0.mk (below_alloc n0_.out (.map #[] 0)); have HMB := Aside0.mk n0_.out.size; have HM := Aside0.mk (HMemo.start w2); clear HB hb; have HB := n1_; clear n0_ n1_)
      | ((with_reducible refine gate_dst (N := 11) rfl ?_); refine Kd.R_lit (Kd.int .i64) _ 3 ?hg (N := 11) ?hd (xs := ([] : List Int)) (inner := []) (ok := fun _ => True) (okp := fun _ => True) ?hr ?hp (fun _ hk => hk) trivial (Below.refl _ _) (Nat.le_refl _) (by simp) ?_; (case hd => rfl); (case hg => rfl); (case hr => first | (go_simp; done) | (go_simp; rfl)); (case hp => exact (Reps.none _ _)); intro v11 w3 ho hb hg_ hnew_; have HO := Aside0.mk (Kd.R_lower (out_far ho HM.out.lt) HB.out.size); have n0_ := Aside0.mk (below_step HB.out hb); have n1_ := Aside0.mk (HMemo.below HM.out hb); clear HB HM hg_ hnew_ ho hb; have HB := n0_; have HM := n1_; clear n0_ n1_)
      | (go_at_call 27; with_reducible refine (HND.out _ HB.out).mono ?_; rintro e_ w4 ⟨rfl, hb⟩; have n0_ := Aside0.mk (below_step HB.out hb); have n1_ := Aside0.mk (Kd.R_below HO.out hb); have n2_ := Aside0.mk (HMemo.below HM.out hb); clear HB HO HM hb; have HB := n0_; have HO := n1_; have HM := n2_; clear n0_ n1_ n2_))
    clear hmm
    rw [← HL0.out] at HO
    generalize w2.heap.size = mb at HM HO HMB ⊢
    go_loopg [5, 6] N_ (fun gg v5 v6 wr => ∃ (i : Nat), v6 = .int .i64 ((nd : Int) + (i : Int)) ∧ i ≤ N_ ∧ N_ - i ≤ gg ∧ Aside0 (HMemo wr mb) ∧ Aside0 (Kd.R (Kd.int .i64) 3 wr w.heap.size (fun k_ => k_ ≠ mb) v5 (tbl i)) ∧ Aside0 (Below w.heap.size w wr))
    case atStart => exact ⟨0, by simp, Nat.zero_le _, Nat.le_refl _, HM, HO, HB⟩
    case round =>
      clear HB HM HO
      obtain ⟨i, rfl, hi, hgg, HM, HO, HB⟩ := hrel
      by_cases hlt : i < N_
      · have hz1 : (nd : Int) + (i : Int) ≤ 6 := by omega
        have HVI := Aside0.mk (HV.out i)
        have HFI : Aside0 (∀ (W : World), HMemo W mb → Calls Try.prog 22 #[.map (some mb), hVA ((nd : Int) + (i : Int)) l0] W fun e' w' => e' = .returned (.int .i64 (hVal ((nd : Int) + (i : Int)) l0)) ∧ HMemo w' mb ∧ KeptM W w' mb) := ⟨fun W h => HF.out i mb W (by omega) h⟩
        have HS1 := Aside0.mk (HSC.out i)
        have HLEN := Aside0.mk (HLN.out i (by omega))
        generalize hVal ((nd : Int) + (i : Int)) l0 = x at HFI HS1
        generalize hVA ((nd : Int) + (i : Int)) l0 = vv at HVI HFI
        have hw1 : IntKind.i64.wrap ((nd : Int) + (i : Int) + 1) = (nd : Int) + (i : Int) + 1 := by rw [i64_w]; unfold wrap64; omega
        go_wp2_with (first
          | (go_at_call 23; with_reducible refine (HVI.out _ HB.out).mono ?_; rintro e_ w5 ⟨rfl, hb⟩; have n0_ := Aside0.mk (below_step HB.out hb); have n1_ := Aside0.mk (Kd.R_below HO.out hb); have n2_ := Aside0.mk (HMemo.below HM.out hb); clear HB HO HM hb; have HB := n0_; have HO := n1_; have HM := n2_; clear n0_ n1_ n2_)
          | (go_at_call 22; with_reducible refine (HFI.out _ HM.out).mono ?_; rintro e_ w6 ⟨rfl, hM, hk⟩; have n0_ := Aside0.mk ((KeptM.then_ ⟨Kept.of_below HB.out _, HB.out.mono (Nat.zero_le _)⟩ hk).new HMB.out); have n1_ := Aside0.mk (out_kept HO.out hk.one); clear HM HB HO; have HM := Aside0.mk hM; have HB := n0_; have HO := n1_; have HFR := Aside0.mk (fresh_of (HMemo.lt HM.out)); clear n0_ n1_ hM hk)
          | ((with_reducible refine gate_builtin (b := .append) (xs := #[.tmp 18, .tmp 24]) rfl ?_); at_builtin; refine Kd.R_append (Kd.int .i64) (w0 := w) w.heap.size rfl (.tmp 18) (.tmp 24) 22 3 (.int .i64 0) 8 rfl Try.underlying22 info3 rfl (by decide) (by omega) _ (tbl i) (x) [.int .i64 (x)] (fun k_ => k_ ≠ mb) (fun _ => False) rfl rfl ?aP (fun _ hk => hk.elim) ?aF ?aO ?aB ?aS ?aL ?_; (case aP => exact rfl); (case aB => exact HB.out); (case aF => exact HFR.out); (case aO => exact HO.out); (case aS => exact HB.out.size); (case aL => exact HLEN.out); intro v_ w7 ho hb hg hat; rw [← HS1.out] at ho; have n1_ := Aside0.mk (memo_after HM.out HO.out hg); clear HM HO HB HFR; have HM := n1_; have HO := Aside0.mk ho; have HB := Aside0.mk hb; clear n1_ ho hb hg hat))
        go_roundg (N_ - (i + 1))
        case measure => omega
        case rel => exact ⟨i + 1, by rw [show (nd : Int) + ((i + 1 : Nat) : Int) = (nd : Int) + (i : Int) + 1 by clear hw1; omega], by clear hw1; omega, by clear hw1; omega, HM, HO, HB⟩
      · have hz1 : ¬ (nd : Int) + (i : Int) ≤ 6 := by omega
        obtain rfl : i = N_ := by omega
        go_wp2
        go_ret2
        exact ⟨_, rfl, by rw [← HQ1.out]; exact Kd.R_mono HO.out (fun _ _ => trivial), HB.out⟩
  | false =>
    rw [hgd] at HG
    rw [if_neg (by rw [hgd]; decide)] at hq1
    subst hq1
    clear hgd hr0 hl
    go_enter Try.func11, Try.ntmps11
    go_wp2_with (go_at_call 26; with_reducible refine (HG.out _ HB.out).mono ?_; rintro e_ w2 ⟨rfl, hb⟩; have n0_ := Aside0.mk (below_step HB.out hb); clear HB hb; have HB := n0_; clear n0_)
    go_ret2
    exact ⟨_, rfl, Kd.R_nil _ _ _ _ _, HB.out⟩


end Go.Proofs.Ytoldjcmokcgaiaa.PrintA
