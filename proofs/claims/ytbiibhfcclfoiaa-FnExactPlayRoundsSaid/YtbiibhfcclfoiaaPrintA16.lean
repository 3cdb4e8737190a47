-- written by this session's own driver (wip/gen.py) with the kit's print and contracts of our own
import Derived.Test.YtbiibhfcclfoiaaPrintA0
import Derived.Test.YtbiibhfcclfoiaaPrintA1
import Derived.Test.YtbiibhfcclfoiaaPrintA10
import Derived.Test.YtbiibhfcclfoiaaPrintA13
import Derived.Test.YtbiibhfcclfoiaaPrintA15
namespace Go.Proofs.Ytbiibhfcclfoiaa.PrintA
open Go.RowKit Go.Proofs.YtbiibhfcclfoiaaLib Go.Proofs.YtbiibhfcclfoiaaW.PrintWords Go.Proofs.YtbiibhfcclfoiaaW.PrintLast Go.Proofs.YtbiibhfcclfoiaaW.PrintMore
attribute [local go_sem] max2_int min2_int max_two min_two max_three min_three max_four min_four   -- for this text's walks alone
set_option linter.unusedVariables false
set_option linter.unusedSimpArgs false

/-! ### impl_roundReaches_first: function 42, a contract of our own -/
set_option maxHeartbeats 8000000 in
set_option maxRecDepth 100000 in
theorem firstR_calls (g h e : Nat) (n : Int) (w : World) (hI : IsRR w g h) (h1 : 1 ≤ h) (h2 : h ≤ 10) (he1 : 1 ≤ e) (he : e ≤ 10) (hn0 : 0 ≤ n) (hn : n ≤ 1000) :
    Calls Try.prog 42 #[.pointer (some ⟨g, 0, none⟩), .int .i64 e, .int .i64 n] w fun e' w' => ∃ v, e' = .returned v ∧ Kd.R (Kd.int .i64) 3 w' w.heap.size (fun _ => True) v (firstR h e n) ∧ Below w.heap.size w w' := by
  have HB := Aside0.mk (Below.refl w.heap.size w)
  have HI := Aside0.mk hI
  have HFW : Aside0 (∀ W, IsRR W g h → Calls Try.prog 49 #[.pointer (some ⟨g, 0, none⟩), .int .i64 e, .int .i64 n] W fun e' w' => e' = .returned (.int .i64 (fewR h e n)) ∧ W = w') := ⟨fun W hW => fewestR_calls g h e n W he hW⟩
  clear hI
  obtain ⟨M, hM⟩ : ∃ M, M = min h e := ⟨_, rfl⟩
  have hM1 : M ≤ h := by omega
  have hM2 : M ≤ e := by omega
  have hmn1 : (if e < h then (e : Int) else (h : Int)) = (M : Int) := by split <;> omega
  have hmn2 : (if (e : Int) < (h : Int) then (e : Int) else (h : Int)) = (M : Int) := by split <;> omega
  by_cases hz : n = 0
  · subst hz
    have hfr : firstR h e 0 = [] := by unfold firstR; rw [if_pos rfl]
    rw [hfr]
    clear hfr hM
    generalize fewR h e 0 = fw at HFW
    go_enter Try.func42, Try.ntmps42
    go_wp2_with (first
      | ((with_reducible refine gate_dst (N := 13) rfl ?_); refine Kd.R_lit (Kd.int .i64) _ 3 ?hg (N := 13) ?hd (xs := ([] : List Int)) (inner := []) (ok := fun _ => True) (okp := fun _ => True) ?hr ?hp (fun _ hk => hk) trivial (Below.refl _ _) (Nat.le_refl _) (by simp) ?_; (case hd => rfl); (case hg => rfl); (case hr => first | (go_simp; done) | (go_simp; rfl)); (case hp => exact (Reps.none _ _)); intro vl_ wl_ ho4 hb hg_ hnew_; clear hg_ hnew_; have HI := Aside0.mk (IsRR.below HI.out hb); have n0_ := Aside0.mk (Kd.R_lower ho4 (below_size (by repeat (first | (with_reducible first | exact HB.out | apply below_alloc | apply pw_below_drewN | apply below_drew1) | exact HB.out)))); have n1_ := Aside0.mk (below_step (by repeat (first | (with_reducible first | exact HB.out | apply below_alloc | apply pw_below_drewN | apply below_drew1) | exact HB.out)) hb); clear HB; have HO := n0_; have HB := n1_; clear n0_ n1_; clear hb ho4)
      | (go_at_call 49; refine (HFW.out _ HI.out).mono ?_; rintro e_ w_ ⟨rfl, rfl⟩))
    go_loopg [7, 8, 10, 11, 12] 1 (fun gg v7 _ v10 _ _ wr => v10 = .int .i64 1 ∧ Aside0 (Kd.R (Kd.int .i64) 3 wr w.heap.size (fun _ => True) v7 []) ∧ Aside0 (IsRR wr g h) ∧ Aside0 (Below w.heap.size w wr))
    case atStart => exact ⟨rfl, HO, HI, HB⟩
    case round =>
      clear HO HI HB
      obtain ⟨rfl, HO, HI, HB⟩ := hrel
      have hx0 : wr.cell? ⟨g, 0, none⟩ = some (.int .i64 h) := ArrI.cell HI.out 0 (by omega)
      have hM3 : (1 : Int) ≤ (M : Int) := by omega
      have hM4 : 1 ≤ M := by omega
      go_wp2
      go_ret
      exact ⟨_, rfl, HO.out, HB.out⟩
  · have hfp := fewR_pos h e n (by omega)
    have hfl := fewR_le h e n
    have hfr : firstR h e n = firR (rr h (fewR h e n - 1)) e n M 1 [] := by unfold firstR; rw [if_neg hz, hM]
    rw [hfr]
    obtain ⟨s, hs⟩ : ∃ s, fewR h e n = s + 1 := ⟨fewR h e n - 1, by omega⟩
    rw [hs] at HFW ⊢
    rw [Nat.add_sub_cancel]
    have hs2 : s ≤ 999 := by omega
    have hn1 : (0 : Int) < n := by omega
    clear hfr hfp hfl hM hs
    generalize hres : firR (rr h s) e n M 1 [] = res
    have HRES := Aside0.mk hres
    clear hres
    go_enter Try.func42, Try.ntmps42
    go_wp2_with (first
      | ((with_reducible refine gate_dst (N := 13) rfl ?_); refine Kd.R_lit (Kd.int .i64) _ 3 ?hg (N := 13) ?hd (xs := ([] : List Int)) (inner := []) (ok := fun _ => True) (okp := fun _ => True) ?hr ?hp (fun _ hk => hk) trivial (Below.refl _ _) (Nat.le_refl _) (by simp) ?_; (case hd => rfl); (case hg => rfl); (case hr => first | (go_simp; done) | (go_simp; rfl)); (case hp => exact (Reps.none _ _)); intro vl_ wl_ ho4 hb hg_ hnew_; clear hg_ hnew_; have HI := Aside0.mk (IsRR.below HI.out hb); have n0_ := Aside0.mk (Kd.R_lower ho4 (below_size (by repeat (first | (with_reducible first | exact HB.out | apply below_alloc | apply pw_below_drewN | apply below_drew1) | exact HB.out)))); have n1_ := Aside0.mk (below_step (by repeat (first | (with_reducible first | exact HB.out | apply below_alloc | apply pw_below_drewN | apply below_drew1) | exact HB.out)) hb); clear HB; have HO := n0_; have HB := n1_; clear n0_ n1_; clear hb ho4)
      | (go_at_call 49; refine (HFW.out _ HI.out).mono ?_; rintro e_ w_ ⟨rfl, rfl⟩))
    go_loopg [7, 8, 10, 11, 12] (M + 1) (fun gg v7 v8 v10 _ _ wr => ∃ (m : Nat) (fnd : Bool) (best : List Int), v10 = .int .i64 m ∧ v8 = .bool fnd ∧ 1 ≤ m ∧ m ≤ M + 1 ∧ M + 1 - m ≤ gg ∧ Aside0 (fnd = true ↔ best ≠ []) ∧ Aside0 (best.length ≤ 10) ∧ Aside0 (firR (rr h s) e n (M + 1 - m) m best = res) ∧ Aside0 (Kd.R (Kd.int .i64) 3 wr w.heap.size (fun _ => True) v7 best) ∧ Aside0 (IsRR wr g h) ∧ Aside0 (Below w.heap.size w wr))
    case atStart => exact ⟨1, false, [], rfl, rfl, by omega, by omega, by omega, ⟨by simp⟩, ⟨by simp⟩, HRES, HO, HI, HB⟩
    case round =>
      clear HO HI HB HRES HFW
      obtain ⟨m, fnd, best, rfl, rfl, hm1, hm2, hgg, HFN, HBL, HRES, HO, HI, HB⟩ := hrel
      have hx0 : wr.cell? ⟨g, 0, none⟩ = some (.int .i64 h) := ArrI.cell HI.out 0 (by omega)
      by_cases hlt : m ≤ M
      · have hltz : (m : Int) ≤ (M : Int) := by omega
        have hres := HRES.out
        rw [show M + 1 - m = (M - m) + 1 by omega] at hres
        have hfo := fun W (hI : IsRR W g h) => firstOf_calls g h e s m n W hI he hs2 (by omega) hn (by omega)
        cases hf : fOf (rr h s) e n m [] 0 with
        | none =>
          rw [firR_none _ _ _ _ _ _ hf] at hres
          rw [hf] at hfo
          have HFO : Aside0 (∀ W, IsRR W g h → Calls Try.prog 50 #[.pointer (some ⟨g, 0, none⟩), .int .i64 ((s : Int) + 1), .int .i64 e, .int .i64 n, .int .i64 m] W fun e' w' => ∃ v, e' = .returned (.tuple #[v, .bool false]) ∧ Kd.R (Kd.int .i64) 3 w' W.heap.size (fun _ => True) v [] ∧ Below W.heap.size W w') := ⟨hfo⟩
          have HR := Aside0.mk hres
          clear hfo hf hres HRES
          go_wp2_with (go_at_call 50; refine (HFO.out _ HI.out).mono ?_; rintro e_ w2 ⟨v, rfl, hr, hb⟩; have n0_ := Aside0.mk (Kd.R_below HO.out hb); have n1_ := Aside0.mk (below_step HB.out hb); have n2_ := Aside0.mk (IsRR.below HI.out hb); clear HO HB HI hx0 hr hb; have HO := n0_; have HB := n1_; have HI := n2_; clear n0_ n1_ n2_)
          go_roundg (M + 1 - (m + 1))
          case measure => omega
          case rel => exact ⟨m + 1, fnd, best, by go_num, rfl, by omega, by omega, by omega, HFN, HBL, ⟨by rw [show M + 1 - (m + 1) = M - m by omega]; exact HR.out⟩, HO, HI, HB⟩
        | some l =>
          rw [firR_some _ _ _ _ _ _ _ hf] at hres
          have hll := fOf_len _ _ _ _ _ _ _ hf
          rw [hf] at hfo
          have HFO : Aside0 (∀ W, IsRR W g h → Calls Try.prog 50 #[.pointer (some ⟨g, 0, none⟩), .int .i64 ((s : Int) + 1), .int .i64 e, .int .i64 n, .int .i64 m] W fun e' w' => ∃ v, e' = .returned (.tuple #[v, .bool true]) ∧ Kd.R (Kd.int .i64) 3 w' W.heap.size (fun _ => True) v l ∧ Below W.heap.size W w') := ⟨hfo⟩
          simp only [List.length_nil, Nat.zero_add] at hll
          have HL0 : Aside0 (l ≠ []) := ⟨by intro h0; subst h0; simp at hll; omega⟩
          have HLL : Aside0 (l.length ≤ 10) := ⟨by omega⟩
          clear hfo hf HRES hll
          have hq := HFN.out
          cases fnd with
          | false =>
            have hb0 : best = [] := by
              by_cases hb : best = []
              · exact hb
              · exact absurd (hq.2 hb) (by decide)
            rw [if_pos (Or.inl hb0)] at hres
            have HR := Aside0.mk hres
            clear hres hb0 hq HFN HBL
            go_wp2_with (go_at_call 50; refine (HFO.out _ HI.out).mono ?_; rintro e_ w2 ⟨v, rfl, hr, hb⟩; have n0_ := Aside0.mk (Kd.R_lower hr (below_size HB.out)); have n1_ := Aside0.mk (below_step HB.out hb); have n2_ := Aside0.mk (IsRR.below HI.out hb); clear HO HB HI hx0 hr hb; have HO := n0_; have HB := n1_; have HI := n2_; clear n0_ n1_ n2_)
            go_roundg (M + 1 - (m + 1))
            case measure => omega
            case rel => exact ⟨m + 1, true, l, by go_num, rfl, by omega, by omega, by omega, ⟨by simp [HL0.out]⟩, HLL, ⟨by rw [show M + 1 - (m + 1) = M - m by omega]; exact HR.out⟩, HO, HI, HB⟩
          | true =>
            have hbne := hq.1 rfl
            have HBN := Aside0.mk hbne
            obtain ⟨c, hc1, hc2⟩ := compare_is l best (by have := HLL.out; omega) 1000 (by have := HLL.out; omega)
            have HCM : Aside0 (∀ (W : World) (A0 A1 : Option Addr) (c0 c1 : Nat), Kd.R (Kd.int .i64) 3 W w.heap.size (fun _ => True) (.slice A0 l.length c0) l → Kd.R (Kd.int .i64) 3 W w.heap.size (fun _ => True) (.slice A1 best.length c1) best → Calls Try.prog 51 #[.slice A0 l.length c0, .slice A1 best.length c1] W fun e w' => e = .returned (.int .i64 c) ∧ Drawn0 W w') :=
              ⟨fun W A0 A1 c0 c1 hr0 hr1 => slices_Compare_int_int.calls 1000 A0 c0 l A1 c1 best c W (Kd.R_reads' hr0).2.2 (Kd.R_reads' hr0).2.1 (Kd.R_reads' hr1).2.2 (Kd.R_reads' hr1).2.1 hc1⟩
            obtain ⟨Ab, cb, hvb⟩ := Kd.R_slice HO.out
            subst hvb
            clear hc1 hq
            by_cases hc : c < 0
            case' pos => rw [if_pos (Or.inr (hc2.1 hc))] at hres
            case' neg => rw [if_neg (fun h => h.elim hbne (fun h => hc (hc2.2 h)))] at hres
            all_goals
              have HR := Aside0.mk hres
              have hd := decide_eq_true hc
              clear hres hc2 hbne
            case' neg =>
              clear hd
              have hd : decide (c < 0) = false := decide_eq_false hc
            all_goals
              clear hc
              go_wp2_with (first
                | (go_at_call 50; refine (HFO.out _ HI.out).mono ?_; rintro e_ w2 ⟨v, rfl, hr, hb⟩; obtain ⟨Al, cl, hvl⟩ := Kd.R_slice hr; subst hvl; have HL := Aside0.mk (Kd.R_lower hr (below_size HB.out)); have n0_ := Aside0.mk (Kd.R_below HO.out hb); have n1_ := Aside0.mk (below_step HB.out hb); have n2_ := Aside0.mk (IsRR.below HI.out hb); clear HO HB HI hx0 hr hb; have HO := n0_; have HB := n1_; have HI := n2_; clear n0_ n1_ n2_)
                | (go_at_call 51; refine (HCM.out _ _ _ _ _ HL.out HO.out).mono ?_; rintro e_ w_ ⟨rfl, ⟨nd, rfl⟩⟩; have n0_ := Aside0.mk (Kd.R_drewN HO.out nd); have n1_ := Aside0.mk (pw_below_drewN HB.out nd); have n2_ := Aside0.mk (IsRR.below HI.out (pw_below_drewN (Below.refl _ _) nd)); have n3_ := Aside0.mk (Kd.R_drewN HL.out nd); clear HO HB HI HL; have HO := n0_; have HB := n1_; have HI := n2_; have HL := n3_; clear n0_ n1_ n2_ n3_))
              go_roundg (M + 1 - (m + 1))
              case measure => omega
              case rel => first
                | exact ⟨m + 1, true, l, by go_num, rfl, by omega, by omega, by omega, ⟨by simp [HL0.out]⟩, HLL, ⟨by rw [show M + 1 - (m + 1) = M - m by omega]; exact HR.out⟩, HL, HI, HB⟩
                | exact ⟨m + 1, true, best, by go_num, rfl, by omega, by omega, by omega, ⟨by simp [HBN.out]⟩, HBL, ⟨by rw [show M + 1 - (m + 1) = M - m by omega]; exact HR.out⟩, HO, HI, HB⟩
      · have hltz : ¬ (m : Int) ≤ (M : Int) := by omega
        have hres := HRES.out
        rw [show M + 1 - m = 0 by omega] at hres
        have HR : Aside0 (best = res) := ⟨hres⟩
        clear hres HRES
        go_wp2
        go_ret
        exact ⟨_, rfl, by rw [← HR.out]; exact HO.out, HB.out⟩

end Go.Proofs.Ytbiibhfcclfoiaa.PrintA
