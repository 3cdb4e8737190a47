-- written by this session's own driver (wip/gen.py) with the kit's print and contracts of our own
import Derived.Test.YtbiibhfcclfoiaaPrintA0
import Derived.Test.YtbiibhfcclfoiaaPrintA1
import Derived.Test.YtbiibhfcclfoiaaPrintA10
import Derived.Test.YtbiibhfcclfoiaaPrintA12
import Derived.Test.YtbiibhfcclfoiaaPrintA13
import Derived.Test.YtbiibhfcclfoiaaPrintA15
namespace Go.Proofs.Ytbiibhfcclfoiaa.PrintA
open Go.RowKit Go.Proofs.YtbiibhfcclfoiaaLib Go.Proofs.YtbiibhfcclfoiaaW.PrintWords Go.Proofs.YtbiibhfcclfoiaaW.PrintLast Go.Proofs.YtbiibhfcclfoiaaW.PrintMore
attribute [local go_sem] max2_int min2_int max_two min_two max_three min_three max_four min_four   -- for this text's walks alone
set_option linter.unusedVariables false
set_option linter.unusedSimpArgs false

/-! ### impl_roundReaches_first: function 42, a contract of our own -/
set_option maxHeartbeats 8000000 in
set_option maxRecDepth 100000 in
theorem firstR_calls (g h e : Nat) (n : Int) (w : World) (hI : IsRR w g h) (h1 : 1 ≤ h) (h2 : h ≤ 10) (he1 : 1 ≤ e) (he : e ≤ 10) (hn0 : 0 ≤ n) (hn : n ≤ 1000) :
    Calls Try.prog 42 #[.pointer (some ⟨g, 0, none⟩), .int .i64 e, .int .i64 n] w fun e' w' => ∃ v, e' = .returned v ∧ Kd.R (Kd.int .i64) 3 w' w.heap.size (fun _ => True) v (firstR h e n) ∧ Below w.heap.size w w' := by
  have HB := Aside0.mk (Below.refl w.heap.size w)
  have HI := Aside0.mk hI
  have HFW : Aside0 (∀ W, IsRR W g h → Calls Try.prog 49 #[.pointer (some ⟨g, 0, none⟩), .int .i64 e, .int .i64 n] W fun e' w' => e' = .returned (.int .i64 (fewR h e n)) ∧ W = w') := ⟨fun W hW => fewestR_calls g h e n W he hW⟩
  clear hI
  obtain ⟨M, hM⟩ : ∃ M, M = min h e := ⟨_, rfl⟩
  have hM1 : M ≤ h := by omega
  have hM2 : M ≤ e := by omega
  have hmn1 : (if e < h then (e : Int) else (h : Int)) = (M : Int) := by split <;> omega
  have hmn2 : (if (e : Int) < (h : Int) then (e : Int) else (h : Int)) = (M : Int) := by split <;> omega
  by_cases hz : n = 0
  · subst hz
    have hfr : firstR h e 0 = [] := by unfold firstR; rw [if_pos rfl]
    rw [hfr]
    clear hfr hM
    generalize fewR h e 0 = fw at HFW
    go_enter Try.func42, Try.ntmps42
    go_wp2_with (first
      | ((with_reducible refine gate_dst (N := 13) rfl ?_); refine Kd.R_lit (Kd.int .i64) _ 3 ?hg (N := 13) ?hd (xs := ([] : List Int)) (inner := []) (ok := fun _ => True) (okp := fun _ => True) ?hr ?hp (fun _ hk => hk) trivial (Below.refl _ _) (Nat.le_refl _) (by simp) ?_; (case hd => rfl); (case hg => rfl); (case hr => first | (go_simp; done) | (go_simp; rfl)); (case hp => exact (Reps.none _ _)); intro vl_ wl_ ho4 hb hg_ hnew_; clear hg_ hnew_; have HI := Aside0.mk (IsRR.below HI.out hb); have n0_ := Aside0.mk (Kd.R_lower ho4 (below_size (by repeat (first | (with_reducible first | exact HB.out | apply below_alloc | apply pw_below_drewN | apply below_drew1) | exact HB.out)))); have n1_ := Aside0.mk (below_step (by repeat (first | (with_reducible first | exact HB.out | apply below_alloc | apply pw_below_drewN | apply below_drew1) | exact HB.out)) hb); clear HB; have HO := n0_; have HB := n1_; clear n0_ n1_; clear hb ho4)
      | (go_at_call 49; refine (HFW.out _ HI.out).mono ?_; rintro e_ w_ ⟨rfl, rfl⟩))
    go_loopg [7, 8, 10, 11, 12] 1 (fun gg v7 _ v10 _ _ wr => v10 = .int .i64 1 ∧ Aside0 (Kd.R (Kd.int .i64) 3 wr w.heap.size (fun _ => True) v7 []) ∧ Aside0 (IsRR wr g h) ∧ Aside0 (Below w.heap.size w wr))
    case atStart => exact ⟨rfl, HO, HI, HB⟩
    case round =>
      clear HO HI HB
      obtain ⟨rfl, HO, HI, HB⟩ := hrel
      have hx0 : wr.cell? ⟨g, 0, none⟩ = some (.int .i64 h) := ArrI.cell HI.out 0 (by omega)
      have hM3 : (1 : Int) ≤ (M : Int) := by omega
      have hM4 : 1 ≤ M := by omega
      go_wp2
      go_ret
      exact ⟨_, rfl, HO.out, HB.out⟩
  · have hfp := fewR_pos h e n (by omega)
    have hfl := fewR_le h e n
    have hfr : firstR h e n = firR (rr h (fewR h e n - 1)) e n M 1 [] := by unfold firstR; rw [if_neg hz, hM]
    rw [hfr]
    obtain ⟨s, hs⟩ : ∃ s, fewR h e n = s + 1 := ⟨fewR h e n - 1, by omega⟩
    rw [hs] at HFW ⊢
    rw [Nat.add_sub_cancel]
    have hs2 : s ≤ 999 := by omega
    have hn1 : (0 : Int) < n := by omega
    clear hfr hfp hfl hM hs
    generalize hres : firR (rr h s) e n M 1 [] = res
    have HRES := Aside0.mk hres
    clear hres
    go_enter Try.func42, Try.ntmps42
    go_wp2_with (first
      | ((with_reducible refine gate_dst (N := 13) rfl ?_); refine Kd.R_lit (Kd.int .i64) _ 3 ?hg (N := 13) ?hd (xs := ([] : List Int)) (inner := []) (ok := fun _ => True) (okp := fun _ => True) ?hr ?hp (fun _ hk => hk) trivial (Below.refl _ _) (Nat.le_refl _) (by simp) ?_; (case hd => rfl); (case hg => rfl); (case hr => first | (go_simp; done) | (go_simp; rfl)); (case hp => exact (Reps.none _ _)); intro vl_ wl_ ho4 hb hg_ hnew_; clear hg_ hnew_; have HI := Aside0.mk (IsRR.below HI.out hb); have n0_ := Aside0.mk (Kd.R_lower ho4 (below_size (by repeat (first | (with_reducible first | exact HB.out | apply below_alloc | apply pw_below_drewN | apply below_drew1) | exact HB.out)))); have n1_ := Aside0.mk (below_step (by repeat (first | (with_reducible first | exact HB.out | apply below_alloc | apply pw_below_drewN | apply below_drew1) | exact HB.out)) hb); clear HB; have HO := n0_; have HB := n1_; clear n0_ n1_; clear hb ho4)
      | (go_at_call 49; refine (HFW.out _ HI.out).mono ?_; rintro e_ w_ ⟨rfl, rfl⟩))
    go_loopg [7, 8, 10, 11, 12] (M + 1) (fun gg v7 v8 v10 _ _ wr => ∃ (m : Nat) (fnd : Bool) (best : List Int), v10 = .int .i64 m ∧ v8 = .bool fnd ∧ 1 ≤ m ∧ m ≤ M + 1 ∧ M + 1 - m ≤ gg ∧ Aside0 (fnd = true ↔ best ≠ []) ∧ Aside0 (best.length ≤ 10) ∧ Aside0 (firR (rr h s) e n (M + 1 - m) m best = res) ∧ Aside0 (Kd.R (Kd.int .i64) 3 wr w.heap.size (fun _ => True) v7 best) ∧ Aside0 (IsRR wr g h) ∧ Aside0 (Below w.heap.size w wr))
    case atStart => exact ⟨1, false, [], rfl, rfl, by omega, by omega, by omega, ⟨by simp⟩, ⟨by simp⟩, HRES, HO, HI, HB⟩
    case round =>
      clear HO HI HB HRES HFW
      obtain ⟨m, fnd, best, rfl, rfl, hm1, hm2, hgg, HFN, HBL, HRES, HO, HI, HB⟩ := hrel
      have hx0 : wr.cell? ⟨g, 0, none⟩ = some (.int .i64 h) := ArrI.cell HI.out 0 (by omega)
      by_cases hlt : m ≤ M
      · have hltz : (m : Int) ≤ (M : Int) := by omega
        have hres := HRES.out
        rw [show M + 1 - m = (M - m) + 1 by omega] at hres
        have hfo := fun W (hI : IsRR W g h) => firstOf_calls g h e s m n W hI he hs2 (by omega) hn (by omega)
        cases hf : fOf (rr h s) e n m [] 0 with
        | none =>
          rw [firR_none _ _ _ _ _ _ hf] at hres
          rw [hf] at hfo
          have HFO : Aside0 (∀ W, IsRR W g h → Calls Try.prog 50 #[.pointer (some ⟨g, 0, none⟩), .int .i64 ((s : Int) + 1), .int .i64 e, .int .i64 n, .int .i64 m] W fun e' w' => ∃ v, e' = .returned (.tuple #[v, .bool false]) ∧ Kd.R (Kd.int .i64) 3 w' W.heap.size (fun _ => True) v [] ∧ Below W.heap.size W w') := ⟨hfo⟩
          have HR := Aside0.mk hres
          clear hfo hf hres HRES
          go_wp2_with (go_at_call 50; refine (HFO.out _ HI.out).mono ?_; rintro e_ w2 ⟨v, rfl, hr, hb⟩; have n0_ := Aside0.mk (Kd.R_below HO.out hb); have n1_ := Aside0.mk (below_step HB.out hb); have n2_ := Aside0.mk (IsRR.below HI.out hb); clear HO HB HI hx0 hr hb; have HO := n0_; have HB := n1_; have HI := n2_; clear n0_ n1_ n2_)
          go_roundg (M + 1 - (m + 1))
          case measure => omega
          case rel => exact ⟨m + 1, fnd, best, by go_num, rfl, by omega, by omega, by omega, HFN, HBL, ⟨by rw [show M + 1 - (m + 1) = M - m by omega]; exact HR.out⟩, HO, HI, HB⟩
        | some l =>
          rw [firR_some _ _ _ _ _ _ _ hf] at hres
          have hll := fOf_len _ _ _ _ _ _ _ hf
          rw [hf] at hfo
          have HFO : Aside0 (∀ W, IsRR W g h → Calls Try.prog 50 #[.pointer (some ⟨g, 0, none⟩), .int .i64 ((s : Int) + 1), .int .i64 e, .int .i64 n, .int .i64 m] W fun e' w' => ∃ v, e' = .returned (.tuple #[v, .bool true]) ∧ Kd.R (Kd.int .i64) 3 w' W.heap.size (fun _ => True) v l ∧ Below W.heap.size W w') := ⟨hfo⟩
          simp only [List.length_nil, Nat.zero_add] at hll
          have HL0 : Aside0 (l ≠ []) := ⟨by intro h0; subst h0; simp at hll; omega⟩
          have HLL : Aside0 (l.length ≤ 10) := ⟨by omega⟩
          clear hfo hf HRES hll
          have hq := HFN.out
          cases fnd with
          | false =>
            have hb0 : best = [] := by
              by_cases hb : best = []
              · exact hb
              · exact absurd (hq.2 hb) (by decide)
            rw [if_pos (Or.inl hb0)] at hres
            have HR := Aside0.mk hres
            clear hres hb0 hq HFN HBL
            go_wp2_with (go_at_call 50; refine (HFO.out _ HI.out).mono ?_; rintro e_ w2 ⟨v, rfl, hr, hb⟩; have n0_ := Aside0.mk (Kd.R_lower hr (below_size HB.out)); have n1_ := Aside0.mk (below_step HB.out hb); have n2_ := Aside0.mk (IsRR.below HI.out hb); clear HO HB HI hx0 hr hb; have HO := n0_; have HB := n1_; have HI := n2_; clear n0_ n1_ n2_)
            go_roundg (M + 1 - (m + 1))
            case measure => omega
            case rel => exact ⟨m + 1, true, l, by go_num, rfl, by omega, by omega, by omega, ⟨by simp [HL0.out]⟩, HLL, ⟨by rw [show M + 1 - (m + 1) = M - m by omega]; exact HR.out⟩, HO, HI, HB⟩
          | true =>
            have hbne := hq.1 rfl
            have HBN := Aside0.mk hbne
            obtain ⟨c, hc1, hc2⟩ := compare_is l best (by have := HLL.out; omega) 1000 (by have := HLL.out; omega)
            have HCM : Aside0 (∀ (W : World) (A0 A1 : Option Addr) (c0 c1 : Nat), Kd.R (Kd.int .i64) 3 W w.heap.size (fun _ => True) (.slice A0 l.length c0) l → Kd.R (Kd.int .i64) 3 W w.heap.size (fun _ => True) (.slice A1 best.length c1) best → Calls Try.prog 51 #[.slice A0 l.length c0, .slice A1 best.length c1] W fun e w' => e = .returned (.int .i64 c) ∧ Drawn0 W w') :=
              ⟨fun W A0 A1 c0 c1 hr0 hr1 => slices_Compare_int_int.calls 1000 A0 c0 l A1 c1 best c W (Kd.R_reads' hr0).2.2 (Kd.R_reads' hr0).2.1 (Kd.R_reads' hr1).2.2 (Kd.R_reads' hr1).2.1 hc1⟩
            obtain ⟨Ab, cb, hvb⟩ := Kd.R_slice HO.out
            subst hvb
            clear hc1 hq
            by_cases hc : c < 0
            case' pos => rw [if_pos (Or.inr (hc2.1 hc))] at hres
            case' neg => rw [if_neg (fun h => h.elim hbne (fun h => hc (hc2.2 h)))] at hres
            all_goals
              have HR := Aside0.mk hres
              have hd := decide_eq_true hc
              clear hres hc2 hbne
            case' neg =>
              clear hd
              have hd : decide (c < 0) = false := decide_eq_false hc
            all_goals
              clear hc
              go_wp2_with (first
                | (go_at_call 50; refine (HFO.out _ HI.out).mono ?_; rintro e_ w2 ⟨v, rfl, hr, hb⟩; obtain ⟨Al, cl, hvl⟩ := Kd.R_slice hr; subst hvl; have HL := Aside0.mk (Kd.R_lower hr (below_size HB.out)); have n0_ := Aside0.mk (Kd.R_below HO.out hb); have n1_ := Aside0.mk (below_step HB.out hb); have n2_ := Aside0.mk (IsRR.below HI.out hb); clear HO HB HI hx0 hr hb; have HO := n0_; have HB := n1_; have HI := n2_; clear n0_ n1_ n2_)
                | (go_at_call 51; refine (HCM.out _ _ _ _ _ HL.out HO.out).mono ?_; rintro e_ w_ ⟨rfl, ⟨nd, rfl⟩⟩; have n0_ := Aside0.mk (Kd.R_drewN HO.out nd); have n1_ := Aside0.mk (pw_below_drewN HB.out nd); have n2_ := Aside0.mk (IsRR.below HI.out (pw_below_drewN (Below.refl _ _) nd)); have n3_ := Aside0.mk (Kd.R_drewN HL.out nd); clear HO HB HI HL; have HO := n0_; have HB := n1_; have HI := n2_; have HL := n3_; clear n0_ n1_ n2_ n3_))
              go_roundg (M + 1 - (m + 1))
              case measure => omega
              case rel => first
                | exact ⟨m + 1, true, l, by go_num, rfl, by omega, by omega, by omega, ⟨by simp [HL0.out]⟩, HLL, ⟨by rw [show M + 1 - (m + 1) = M - m by omega]; exact HR.out⟩, HL, HI, HB⟩
                | exact ⟨m + 1, true, best, by go_num, rfl, by omega, by omega, by omega, ⟨by simp [HBN.out]⟩, HBL, ⟨by rw [show M + 1 - (m + 1) = M - m by omega]; exact HR.out⟩, HO, HI, HB⟩
      · have hltz : ¬ (m : Int) ≤ (M : Int) := by omega
        have hres := HRES.out
        rw [show M + 1 - m = 0 by omega] at hres
        have HR : Aside0 (best = res) := ⟨hres⟩
        clear hres HRES
        go_wp2
        go_ret
        exact ⟨_, rfl, by rw [← HR.out]; exact HO.out, HB.out⟩

/-! ### impl_roundReaches_play: function 30, a contract of our own -/
theorem IsRR.grownR {w w1 : World} {g h : Nat} {u : Value} {base : Nat} {ok : Nat → Prop} {xs : List (List Int)} (x : IsRR w g h) (ho : (Kd.slice 3 (Kd.int .i64)).R 25 w base ok u xs) (hg : w.grownBy w1 u.ownBlock) : IsRR w1 g h :=
  ⟨blk_grown x.out hg (fun he => by
    obtain ⟨c, hc⟩ := Kd.R_typed ho g he.symm
    rw [x.out] at hc
    injection hc with hc
    injection hc with _ h3
    exact absurd h3 (by decide))⟩
set_option maxHeartbeats 8000000 in
set_option maxRecDepth 100000 in
theorem playRR_calls (g h e0 : Nat) (n0 b : Int) (w : World) (hI : IsRR w g h) (hp : PlayAt h b 1000 e0 0 n0) :
    Calls Try.prog 30 #[.pointer (some ⟨g, 0, none⟩), .int .i64 e0, .int .i64 n0, .int .i64 b] w fun e' w' => ∃ v, e' = .returned v ∧ Kd.R (Kd.slice 3 (Kd.int .i64)) 25 w' w.heap.size (fun _ => True) v (playR h b 1000 e0 0 n0) ∧ Below w.heap.size w w' := by
  have HB := Aside0.mk (Below.refl w.heap.size w)
  have HI := Aside0.mk hI
  have HP := Aside0.mk hp
  generalize hres : playR h b 1000 e0 0 n0 = res
  have HRES := Aside0.mk hres
  have hb1 : b ≤ 1000 := by have := hp.bh; have := hp.hi; omega
  have hb0 : 0 ≤ b := by have := hp.lb; omega
  clear hI hp hres
  go_enter Try.func30, Try.ntmps30
  go_wp2_with ((with_reducible refine gate_dst (N := 14) rfl ?_); refine Kd.R_lit (Kd.slice 3 (Kd.int .i64)) _ 25 ?hg (N := 14) ?hd (xs := ([] : List (List Int))) (inner := []) (ok := fun _ => True) (okp := fun _ => True) ?hr ?hp (fun _ hk => hk) trivial (Below.refl _ _) (Nat.le_refl _) (by simp) ?_; (case hd => rfl); (case hg => rfl); (case hr => first | (go_simp; done) | (go_simp; rfl)); (case hp => exact (Reps.none _ _)); intro vl_ wl_ ho4 hb hg_ hnew_; clear hg_ hnew_; have HI := Aside0.mk (IsRR.below HI.out hb); have n0_ := Aside0.mk (Kd.R_lower ho4 (below_size (by repeat (first | (with_reducible first | exact HB.out | apply below_alloc | apply pw_below_drewN | apply below_drew1) | exact HB.out)))); have n1_ := Aside0.mk (below_step (by repeat (first | (with_reducible first | exact HB.out | apply below_alloc | apply pw_below_drewN | apply below_drew1) | exact HB.out)) hb); clear HB; have HO := n0_; have HB := n1_; clear n0_ n1_; clear hb ho4)
  go_loopg [1, 9, 10, 11, 12, 13] 1000 (fun gg v1 v9 v10 v11 _ _ wr => ∃ (k e : Nat) (low high : Int) (out : List (List Int)), v1 = .int .i64 e ∧ v10 = .int .i64 low ∧ v11 = .int .i64 high ∧ k ≤ gg ∧ Aside0 (out.length + k ≤ 1000) ∧ Aside0 (PlayAt h b k e low high) ∧ Aside0 (out ++ playR h b k e low high = res) ∧ Aside0 (IsRR wr g h) ∧ Aside0 (Kd.R (Kd.slice 3 (Kd.int .i64)) 25 wr w.heap.size (fun _ => True) v9 out) ∧ Aside0 (Below w.heap.size w wr))
  case atStart => exact ⟨1000, e0, 0, n0, [], rfl, rfl, rfl, Nat.le_refl _, ⟨by simp⟩, HP, HRES, HI, HO, HB⟩
  case round =>
    clear HO HI HB HRES HP
    obtain ⟨k, e, low, high, out, rfl, rfl, rfl, hgg, HLN, HP, HRES, HI, HO, HB⟩ := hrel
    by_cases hlt : low < high
    · obtain ⟨r1, r2, r3, r4, r5, r6, r7⟩ := HP.out.round hlt
      have hl0 := HP.out.l0
      have hh1 := HP.out.hi
      have he1 := HP.out.egg hlt
      have he2 := HP.out.e2
      have hrl := roundR_len h e low high
      have hlo := loOf_at b _ low r1
      have hhi := hiOf_at b high _ low r1
      obtain ⟨k', rfl⟩ : ∃ k', k = k' + 1 := ⟨k - 1, by omega⟩
      have hres := HRES.out
      rw [playR_step h b k' e low high hlt] at hres
      rw [Nat.add_sub_cancel] at r7
      have HFI : Aside0 (∀ W, IsRR W g h → Calls Try.prog 42 #[.pointer (some ⟨g, 0, none⟩), .int .i64 e, .int .i64 (high - low)] W fun e' w' => ∃ v, e' = .returned v ∧ Kd.R (Kd.int .i64) 3 w' W.heap.size (fun _ => True) v (firstR h e (high - low)) ∧ Below W.heap.size W w') := ⟨fun W hW => firstR_calls g h e (high - low) W hW HP.out.h1 HP.out.h2 he1 he2 (by omega) (by omega)⟩
      have hsh : impl_shifted.f 2000 (firstR h e (high - low)) low = some (roundR h e low high) := shifted_is _ _ (by rw [← shiftR_len low]; exact Nat.le_trans r3 (by omega)) (fun x hx => by
        have h1 : x + low ∈ roundR h e low high := List.mem_map_of_mem hx
        have := r4 _ h1
        omega) 2000 (by rw [← shiftR_len low]; exact Nat.lt_of_le_of_lt r3 (by omega))
      have hab : impl_above.f 2000 (roundR h e low high) b = some (cntA b (roundR h e low high) : Nat) := above_is _ _ (by omega) 2000 (by omega)
      have HSH : Aside0 (∀ (W : World) (v : Value), Kd.R (Kd.int .i64) 3 W w.heap.size (fun _ => True) v (firstR h e (high - low)) → ∃ A c, v = .slice A (firstR h e (high - low)).length c ∧ Calls Try.prog 41 #[.slice A (firstR h e (high - low)).length c, .int .i64 low] W fun e' w' => ∃ v, e' = .returned v ∧ Kd.R (Kd.int .i64) 3 w' W.heap.size (fun _ => True) v (roundR h e low high) ∧ Below W.heap.size W w') := ⟨fun W v hr => by
        obtain ⟨A, c, rfl⟩ := Kd.R_slice hr
        exact ⟨A, c, rfl, impl_shifted.calls 2000 A c _ low _ W (Kd.R_reads' hr).2.2 (Kd.R_reads' hr).2.1 hsh⟩⟩
      generalize firstR h e (high - low) = fl at HFI HSH
      generalize hcc : cntA b (roundR h e low high) = c at hres r5 r7 hab hlo hhi
      generalize hrr : roundR h e low high = r at *
      have hlen : r.length ≠ 0 := fun h0 => r2 (List.length_eq_zero_iff.1 h0)
      obtain ⟨i1, hi1⟩ : ∃ i1, r.length = i1 + c := ⟨r.length - c, by omega⟩
      rw [show r.length - c = i1 by omega] at hlo hhi
      have HAB : Aside0 (∀ (W : World) (g2 cap : Nat), Kd.R (Kd.int .i64) 3 W w.heap.size (fun _ => True) (.slice (some ⟨g2, 0, none⟩) (i1 + c) cap) r → Calls Try.prog 23 #[.slice (some ⟨g2, 0, none⟩) (i1 + c) cap, .int .i64 b] W fun e' w' => e' = .returned (.int .i64 c) ∧ Drawn0 W w') := ⟨fun W g2 cap hr => by
        rw [← hi1] at hr ⊢
        exact impl_above.calls 2000 _ cap r b _ W (Kd.R_reads' hr).2.2 (Kd.R_reads' hr).2.1 hab⟩
      have HFORM : Aside0 (∀ (W : World) (base : Nat) (v : Value), Kd.R (Kd.int .i64) 3 W base (fun _ => True) v r → ∃ g2 cap, v = .slice (some ⟨g2, 0, none⟩) (i1 + c) cap) := ⟨fun W base v hr => by
        obtain ⟨g2, cap, h1, _⟩ := Kd.R_form hr (by omega)
        rw [hi1] at h1
        exact ⟨g2, cap, h1⟩⟩
      have HCELL : Aside0 (∀ (W : World) (g2 cap i : Nat), i < i1 + c → Kd.R (Kd.int .i64) 3 W w.heap.size (fun _ => True) (.slice (some ⟨g2, 0, none⟩) (i1 + c) cap) r → W.cell? ⟨g2, i, none⟩ = some (.int .i64 (r.getD i 0))) := ⟨fun W g2 cap i hi hr => by
        have := (Kd.R_celln (0 : Int) hr (i : Int) (by omega) (by omega)).1
        rw [Int.toNat_natCast] at this
        simpa [rdOf] using this⟩
      have HRNG : Aside0 (∀ i, i < i1 + c → 0 < r.getD i 0 ∧ r.getD i 0 ≤ 1000) := ⟨fun i hi => by
        have h1 : r.getD i 0 = r[i] := by simp [List.getD_eq_getElem?_getD, show i < r.length by omega]
        have := r4 r[i] (List.getElem_mem (by omega))
        omega⟩
      obtain ⟨out2, ho2⟩ : ∃ out2, out2 = out ++ [r] := ⟨_, rfl⟩
      rw [show out ++ r :: playR h b k' (e - c) (loOf b low r) (hiOf b high r) = out2 ++ playR h b k' (e - c) (loOf b low r) (hiOf b high r) by rw [ho2]; simp] at hres
      have Hy := Aside0.mk ho2
      have HLN2 : Aside0 (out2.length + k' ≤ 1000) := ⟨by have := HLN.out; rw [ho2]; simp; omega⟩
      have HOL : Aside0 (out.length ≤ 1000) := ⟨by have := HLN.out; omega⟩
      have HR := Aside0.mk hres
      have HP2 := Aside0.mk r7
      have hce : c ≤ e := by omega
      obtain ⟨e', rfl⟩ : ∃ e', e = e' + c := ⟨e - c, by omega⟩
      rw [Nat.add_sub_cancel] at HR HP2
      obtain ⟨A9, c9, hv9⟩ := Kd.R_slice HO.out
      subst hv9
      have hwl : IntKind.i64.wrap (high - low) = high - low := by rw [i64_w]; unfold wrap64; omega
      have hz9 : (c : Int) ≤ 1000 := by omega
      have hz10 : (e' : Int) ≤ 10 := by omega
      have hlo1 : 1 ≤ i1 → loOf b low r = r.getD (i1 - 1) 0 := fun h => hlo.1 (by omega)
      have hlo2 : i1 = 0 → loOf b low r = low := fun h => hlo.2 (by omega)
      have hhi1 : 1 ≤ c → hiOf b high r = r.getD i1 0 - 1 := fun h => hhi.1 (by omega)
      have hhi2 : c = 0 → hiOf b high r = high := fun h => hhi.2 h
      have hpos : 1 ≤ i1 + c := by omega
      have hsm : i1 + c ≤ 1000 := by omega
      clear hrr hcc hsh hab r1 r2 r3 r4 r5 r6 r7 hres ho2 HLN HP HRES hl0 he1 hrl hi1 hlen hce hlo hhi
      generalize out.length = on at HO
      by_cases hc0 : c = 0
      · subst hc0
        obtain ⟨j, rfl⟩ : ∃ j, i1 = j + 1 := ⟨i1 - 1, by omega⟩
        rw [hlo1 (by omega), hhi2 rfl] at HR HP2
        have HC2 : Aside0 (∀ (W : World) (g2 cap : Nat), Kd.R (Kd.int .i64) 3 W w.heap.size (fun _ => True) (.slice (some ⟨g2, 0, none⟩) (j + 1) cap) r → W.cell? ⟨g2, j, none⟩ = some (.int .i64 (r.getD j 0))) := ⟨fun W g2 cap hr => HCELL.out W g2 cap j (by omega) hr⟩
        simp only [Nat.add_zero, Nat.add_sub_cancel] at HFI HAB HFORM HP2 HR
        have hxr := HRNG.out j (by omega)
        generalize r.getD j 0 = x2 at HC2 HR HP2 hxr
        have hz1 : (j : Int) < (j : Int) + 1 := by omega
        have hz2 : (0 : Int) < (j : Int) + 1 := by omega
        have hz3 : (j : Int) ≤ 1000 := by omega
        clear hlo1 hlo2 hhi1 hhi2 HCELL HRNG hpos hsm hxr
        go_wp2_with (first
          | (go_at_call 42; refine (HFI.out _ HI.out).mono ?_; rintro e_ w2 ⟨v, rfl, hr, hb⟩; obtain ⟨Af, cf, rfl, hsc⟩ := HSH.out _ v (Kd.R_lower hr (below_size HB.out)); have HSC := Aside0.mk hsc; clear hsc; have n0_ := Aside0.mk (Kd.R_below HO.out hb); have n1_ := Aside0.mk (below_step HB.out hb); have n2_ := Aside0.mk (IsRR.below HI.out hb); clear HO HB HI hr hb; have HO := n0_; have HB := n1_; have HI := n2_; clear n0_ n1_ n2_)
          | (go_at_call 41; refine (HSC.out).mono ?_; rintro e_ w3 ⟨v, rfl, hr, hb⟩; obtain ⟨g2, cap, rfl⟩ := HFORM.out _ _ _ hr; have HRD := Aside0.mk (Kd.R_lower hr (below_size HB.out)); have n0_ := Aside0.mk (Kd.R_below HO.out hb); have n1_ := Aside0.mk (below_step HB.out hb); have n2_ := Aside0.mk (IsRR.below HI.out hb); clear HO HB HI hr hb; have HO := n0_; have HB := n1_; have HI := n2_; clear n0_ n1_ n2_)
          | ((with_reducible refine gate_builtin (b := .append) (xs := #[.tmp 27, .tmp 29]) rfl ?_); at_builtin; refine Kd.R_append (Kd.slice 3 (Kd.int .i64)) (w0 := w) w.heap.size rfl (.tmp 27) (.tmp 29) 31 25 (.slice none 0 0) 24 rfl Try.underlying31 info25 rfl (by decide) (by omega) (.slice A9 on c9) out r [.slice (some ⟨g2, 0, none⟩) (j + 1) cap] (fun _ => True) (fun k_ => True ∧ some k_ ≠ ((.slice A9 on c9) : Value).ownBlock) rfl rfl ?aP (fun _ hk => hk) ?aF ?aO ?aB ?aS ?aL ?_; (case aP => exact ⟨_, rfl, Kd.R_apart' HRD.out (Kd.R_typed HO.out) (by decide)⟩); (case aB => exact (by repeat (first | (with_reducible first | exact HB.out | apply below_alloc | apply pw_below_drewN | apply below_drew1) | exact HB.out))); (case aF => exact (fun _ _ => trivial)); (case aO => exact (by (with_reducible repeat (first | apply Kd.R_alloc | apply Kd.R_drewN | apply Kd.R_drew)); exact HO.out)); (case aS => exact (below_size (by repeat (first | (with_reducible first | exact HB.out | apply below_alloc | apply pw_below_drewN | apply below_drew1) | exact HB.out)))); (case aL => (have := HOL.out; omega)); intro va_ wa_ ho hb hg hat; have n9_ := Aside0.mk (Kd.R_over' HRD.out (Kd.R_typed HO.out) (by decide) hg); rw [← Hy.out] at ho; have HI := Aside0.mk (IsRR.grownR HI.out HO.out hg); have n0_ := Aside0.mk (hb); have n1_ := Aside0.mk (ho); clear HB HO HRD; have HB := n0_; have HO := n1_; have HRD := n9_; clear n0_ n1_ n9_; clear ho hb hg hat)
          | (go_at_call 23; refine (HAB.out _ g2 cap HRD.out).mono ?_; have hx2 := HC2.out _ g2 cap HRD.out; rintro e_ w_ ⟨rfl, ⟨nd, rfl⟩⟩; have n0_ := Aside0.mk (Kd.R_drewN HO.out nd); have n1_ := Aside0.mk (pw_below_drewN HB.out nd); have n2_ := Aside0.mk (IsRR.below HI.out (pw_below_drewN (Below.refl _ _) nd)); clear HO HB HI; have HO := n0_; have HB := n1_; have HI := n2_; clear n0_ n1_ n2_))
        go_roundg k'
        case measure => omega
        case rel => exact ⟨k', e', x2, high, out2, by go_num, by go_num, by go_num, by omega, HLN2, HP2, HR, HI, HO, HB⟩
      have hcp : 0 < c := by omega
      have hcz : (0 : Int) < (c : Int) := by omega
      by_cases hi0 : i1 = 0
      · subst hi0
        rw [hlo2 rfl, hhi1 (by omega)] at HR HP2
        simp only [Nat.zero_add] at HAB HFORM HCELL HRNG hsm
        have HC1 : Aside0 (∀ (W : World) (g2 cap : Nat), Kd.R (Kd.int .i64) 3 W w.heap.size (fun _ => True) (.slice (some ⟨g2, 0, none⟩) c cap) r → W.cell? ⟨g2, 0, none⟩ = some (.int .i64 (r.getD 0 0))) := ⟨fun W g2 cap hr => HCELL.out W g2 cap 0 hcp hr⟩
        have hxr := HRNG.out 0 hcp
        generalize r.getD 0 0 = x1 at HC1 HR HP2 hxr
        have hw4 : IntKind.i64.wrap (x1 - 1) = x1 - 1 := by rw [i64_w]; unfold wrap64; omega
        clear hlo1 hlo2 hhi1 hhi2 HCELL HRNG hpos hsm hxr
        go_wp2_with (first
          | (go_at_call 42; refine (HFI.out _ HI.out).mono ?_; rintro e_ w2 ⟨v, rfl, hr, hb⟩; obtain ⟨Af, cf, rfl, hsc⟩ := HSH.out _ v (Kd.R_lower hr (below_size HB.out)); have HSC := Aside0.mk hsc; clear hsc; have n0_ := Aside0.mk (Kd.R_below HO.out hb); have n1_ := Aside0.mk (below_step HB.out hb); have n2_ := Aside0.mk (IsRR.below HI.out hb); clear HO HB HI hr hb; have HO := n0_; have HB := n1_; have HI := n2_; clear n0_ n1_ n2_)
          | (go_at_call 41; refine (HSC.out).mono ?_; rintro e_ w3 ⟨v, rfl, hr, hb⟩; obtain ⟨g2, cap, rfl⟩ := HFORM.out _ _ _ hr; have HRD := Aside0.mk (Kd.R_lower hr (below_size HB.out)); have n0_ := Aside0.mk (Kd.R_below HO.out hb); have n1_ := Aside0.mk (below_step HB.out hb); have n2_ := Aside0.mk (IsRR.below HI.out hb); clear HO HB HI hr hb; have HO := n0_; have HB := n1_; have HI := n2_; clear n0_ n1_ n2_)
          | ((with_reducible refine gate_builtin (b := .append) (xs := #[.tmp 27, .tmp 29]) rfl ?_); at_builtin; refine Kd.R_append (Kd.slice 3 (Kd.int .i64)) (w0 := w) w.heap.size rfl (.tmp 27) (.tmp 29) 31 25 (.slice none 0 0) 24 rfl Try.underlying31 info25 rfl (by decide) (by omega) (.slice A9 on c9) out r [.slice (some ⟨g2, 0, none⟩) c cap] (fun _ => True) (fun k_ => True ∧ some k_ ≠ ((.slice A9 on c9) : Value).ownBlock) rfl rfl ?aP (fun _ hk => hk) ?aF ?aO ?aB ?aS ?aL ?_; (case aP => exact ⟨_, rfl, Kd.R_apart' HRD.out (Kd.R_typed HO.out) (by decide)⟩); (case aB => exact (by repeat (first | (with_reducible first | exact HB.out | apply below_alloc | apply pw_below_drewN | apply below_drew1) | exact HB.out))); (case aF => exact (fun _ _ => trivial)); (case aO => exact (by (with_reducible repeat (first | apply Kd.R_alloc | apply Kd.R_drewN | apply Kd.R_drew)); exact HO.out)); (case aS => exact (below_size (by repeat (first | (with_reducible first | exact HB.out | apply below_alloc | apply pw_below_drewN | apply below_drew1) | exact HB.out)))); (case aL => (have := HOL.out; omega)); intro va_ wa_ ho hb hg hat; have n9_ := Aside0.mk (Kd.R_over' HRD.out (Kd.R_typed HO.out) (by decide) hg); rw [← Hy.out] at ho; have HI := Aside0.mk (IsRR.grownR HI.out HO.out hg); have n0_ := Aside0.mk (hb); have n1_ := Aside0.mk (ho); clear HB HO HRD; have HB := n0_; have HO := n1_; have HRD := n9_; clear n0_ n1_ n9_; clear ho hb hg hat)
          | (go_at_call 23; refine (HAB.out _ g2 cap HRD.out).mono ?_; have hx1 := HC1.out _ g2 cap HRD.out; rintro e_ w_ ⟨rfl, ⟨nd, rfl⟩⟩; have n0_ := Aside0.mk (Kd.R_drewN HO.out nd); have n1_ := Aside0.mk (pw_below_drewN HB.out nd); have n2_ := Aside0.mk (IsRR.below HI.out (pw_below_drewN (Below.refl _ _) nd)); clear HO HB HI; have HO := n0_; have HB := n1_; have HI := n2_; clear n0_ n1_ n2_))
        go_roundg k'
        case measure => omega
        case rel => exact ⟨k', e', low, x1 - 1, out2, by go_num, by go_num, by go_num, by omega, HLN2, HP2, HR, HI, HO, HB⟩
      · obtain ⟨j, rfl⟩ : ∃ j, i1 = j + 1 := ⟨i1 - 1, by omega⟩
        rw [hlo1 (by omega), hhi1 (by omega), Nat.add_sub_cancel] at HR HP2
        have HC1 : Aside0 (∀ (W : World) (g2 cap : Nat), Kd.R (Kd.int .i64) 3 W w.heap.size (fun _ => True) (.slice (some ⟨g2, 0, none⟩) (j + 1 + c) cap) r → W.cell? ⟨g2, j + 1, none⟩ = some (.int .i64 (r.getD (j + 1) 0))) := ⟨fun W g2 cap hr => HCELL.out W g2 cap (j + 1) (by omega) hr⟩
        have HC2 : Aside0 (∀ (W : World) (g2 cap : Nat), Kd.R (Kd.int .i64) 3 W w.heap.size (fun _ => True) (.slice (some ⟨g2, 0, none⟩) (j + 1 + c) cap) r → W.cell? ⟨g2, j, none⟩ = some (.int .i64 (r.getD j 0))) := ⟨fun W g2 cap hr => HCELL.out W g2 cap j (by omega) hr⟩
        have hxr := HRNG.out (j + 1) (by omega)
        generalize r.getD (j + 1) 0 = x1 at HC1 HR HP2 hxr
        generalize r.getD j 0 = x2 at HC2 HR HP2
        have hz1 : (j : Int) < (j : Int) + 1 + (c : Int) := by omega
        have hz2 : (j : Int) + 1 < (j : Int) + 1 + (c : Int) := by omega
        have hz3 : (c : Int) < (j : Int) + 1 + (c : Int) := by omega
        have hz4 : (0 : Int) ≤ (j : Int) + 1 := by omega
        have hz5 : ((j : Int) + 1).toNat = j + 1 := by omega
        have hz6 : c < j + 1 + c := by omega
        obtain ⟨hw1, hw2, hw3, hw4⟩ : IntKind.i64.wrap ((j : Int) + 1) = (j : Int) + 1 ∧ IntKind.i64.wrap (j : Int) = (j : Int) ∧ IntKind.i64.wrap (e' : Int) = (e' : Int) ∧ IntKind.i64.wrap (x1 - 1) = x1 - 1 := by
          refine ⟨?_, ?_, ?_, ?_⟩ <;> (rw [i64_w]; unfold wrap64; omega)
        clear hlo1 hlo2 hhi1 hhi2 HCELL HRNG hpos hxr
        go_wp2_with (first
          | (go_at_call 42; refine (HFI.out _ HI.out).mono ?_; rintro e_ w2 ⟨v, rfl, hr, hb⟩; obtain ⟨Af, cf, rfl, hsc⟩ := HSH.out _ v (Kd.R_lower hr (below_size HB.out)); have HSC := Aside0.mk hsc; clear hsc; have n0_ := Aside0.mk (Kd.R_below HO.out hb); have n1_ := Aside0.mk (below_step HB.out hb); have n2_ := Aside0.mk (IsRR.below HI.out hb); clear HO HB HI hr hb; have HO := n0_; have HB := n1_; have HI := n2_; clear n0_ n1_ n2_)
          | (go_at_call 41; refine (HSC.out).mono ?_; rintro e_ w3 ⟨v, rfl, hr, hb⟩; obtain ⟨g2, cap, rfl⟩ := HFORM.out _ _ _ hr; have HRD := Aside0.mk (Kd.R_lower hr (below_size HB.out)); have n0_ := Aside0.mk (Kd.R_below HO.out hb); have n1_ := Aside0.mk (below_step HB.out hb); have n2_ := Aside0.mk (IsRR.below HI.out hb); clear HO HB HI hr hb; have HO := n0_; have HB := n1_; have HI := n2_; clear n0_ n1_ n2_)
          | ((with_reducible refine gate_builtin (b := .append) (xs := #[.tmp 27, .tmp 29]) rfl ?_); at_builtin; refine Kd.R_append (Kd.slice 3 (Kd.int .i64)) (w0 := w) w.heap.size rfl (.tmp 27) (.tmp 29) 31 25 (.slice none 0 0) 24 rfl Try.underlying31 info25 rfl (by decide) (by omega) (.slice A9 on c9) out r [.slice (some ⟨g2, 0, none⟩) (j + 1 + c) cap] (fun _ => True) (fun k_ => True ∧ some k_ ≠ ((.slice A9 on c9) : Value).ownBlock) rfl rfl ?aP (fun _ hk => hk) ?aF ?aO ?aB ?aS ?aL ?_; (case aP => exact ⟨_, rfl, Kd.R_apart' HRD.out (Kd.R_typed HO.out) (by decide)⟩); (case aB => exact (by repeat (first | (with_reducible first | exact HB.out | apply below_alloc | apply pw_below_drewN | apply below_drew1) | exact HB.out))); (case aF => exact (fun _ _ => trivial)); (case aO => exact (by (with_reducible repeat (first | apply Kd.R_alloc | apply Kd.R_drewN | apply Kd.R_drew)); exact HO.out)); (case aS => exact (below_size (by repeat (first | (with_reducible first | exact HB.out | apply below_alloc | apply pw_below_drewN | apply below_drew1) | exact HB.out)))); (case aL => (have := HOL.out; omega)); intro va_ wa_ ho hb hg hat; have n9_ := Aside0.mk (Kd.R_over' HRD.out (Kd.R_typed HO.out) (by decide) hg); rw [← Hy.out] at ho; have HI := Aside0.mk (IsRR.grownR HI.out HO.out hg); have n0_ := Aside0.mk (hb); have n1_ := Aside0.mk (ho); clear HB HO HRD; have HB := n0_; have HO := n1_; have HRD := n9_; clear n0_ n1_ n9_; clear ho hb hg hat)
          | (go_at_call 23; refine (HAB.out _ g2 cap HRD.out).mono ?_; have hx1 := HC1.out _ g2 cap HRD.out; have hx2 := HC2.out _ g2 cap HRD.out; rintro e_ w_ ⟨rfl, ⟨nd, rfl⟩⟩; have n0_ := Aside0.mk (Kd.R_drewN HO.out nd); have n1_ := Aside0.mk (pw_below_drewN HB.out nd); have n2_ := Aside0.mk (IsRR.below HI.out (pw_below_drewN (Below.refl _ _) nd)); clear HO HB HI; have HO := n0_; have HB := n1_; have HI := n2_; clear n0_ n1_ n2_))
        go_roundg k'
        case measure => omega
        case rel => exact ⟨k', e', x2, x1 - 1, out2, by go_num, by go_num, by go_num, by clear hw1 hw2 hw3 hw4; omega, HLN2, HP2, HR, HI, HO, HB⟩

    · have hpe := playR_end h b k e low high hlt
      have HR : Aside0 (out = res) := ⟨by have := HRES.out; rw [hpe] at this; simpa using this⟩
      clear hpe HRES
      go_wp2
      go_ret
      exact ⟨_, rfl, by rw [← HR.out]; exact HO.out, HB.out⟩


end Go.Proofs.Ytbiibhfcclfoiaa.PrintA
