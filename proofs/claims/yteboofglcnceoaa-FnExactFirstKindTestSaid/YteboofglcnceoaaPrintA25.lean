-- written by this session's own driver (wip/gen.py) with the kit's print and contracts of our own
import Derived.Test.YteboofglcnceoaaPrintA0
import Derived.Test.YteboofglcnceoaaPrintA6
import Derived.Test.YteboofglcnceoaaPrintA7
import Derived.Test.YteboofglcnceoaaPrintA12
namespace Go.Proofs.Yteboofglcnceoaa.PrintA
open Go.RowKit Go.Proofs.YteboofglcnceoaaLib Go.Proofs.YteboofglcnceoaaW.PrintWords Go.Proofs.YteboofglcnceoaaW.PrintLast Go.Proofs.YteboofglcnceoaaW.PrintMore
attribute [local go_sem] max2_int min2_int max_two min_two max_three min_three max_four min_four   -- for this text's walks alone
set_option linter.unusedVariables false
set_option linter.unusedSimpArgs false

/-! ### spec_kiFirst: function 20, a contract of our own -/
theorem kTests_at0 (k : KSt) (i : Nat) (hi : i < kNu k false) : (kTests k).getD i (false, 0) = (false, kLo k false + 1 + (i : Int)) := by
  rw [kTests_rows, List.getD_eq_getElem?_getD, List.getElem?_append_left (by rw [kRow_len]; exact hi)]
  simp [kRow, hi]
theorem kTests_at1 (k : KSt) (i : Nat) (hi : i < kNu k true) : (kTests k).getD (kNu k false + i) (false, 0) = (true, kLo k true + 1 + (i : Int)) := by
  rw [kTests_rows, List.getD_eq_getElem?_getD, List.getElem?_append_right (by rw [kRow_len]; omega), kRow_len, Nat.add_sub_cancel_left]
  simp [kRow, hi]
theorem kTests_len2 (k : KSt) : (kTests k).length = kNu k false + kNu k true := by
  rw [kTests_rows, List.length_append, kRow_len, kRow_len]
set_option maxHeartbeats 8000000 in
set_option maxRecDepth 100000 in
theorem kiFirst_calls (k : KSt) (hk : KOk k) (N : Nat) (hN : N = 38416) (g cap : Nat) (t : List Int) (w0 W : World) (hT : KTab false t) (hB : Below w0.heap.size w0 W) (hR : Kd.R (Kd.int .i64) 3 W w0.heap.size (fun k_ => k_ = g) (.slice (some ⟨g, 0, none⟩) N cap) t) (j : Nat) (hj : j < (kTests k).length) (hjv : kSW false k ((kTests k).getD j (false, 0)) = kS false k) (hjb : ∀ i, i < j → kSW false k ((kTests k).getD i (false, 0)) ≠ kS false k) :
    Calls Try.prog 20 #[.slice (some ⟨g, 0, none⟩) N cap, .agg #[.int .i64 k.a, .int .i64 k.b, .int .i64 k.c, .int .i64 k.d, .int .i64 k.w, .int .i64 k.s]] W fun e' w' => e' = .returned (.tuple #[.bool ((kTests k).getD j (false, 0)).1, .int .i64 ((kTests k).getD j (false, 0)).2]) ∧ Below w0.heap.size w0 w' := by
  obtain ⟨tt, htt⟩ : ∃ tt : Nat → Bool × Int, tt = fun i => (kTests k).getD i (false, 0) := ⟨_, rfl⟩
  have hgo : (kTests k).getD j (false, 0) = tt j := by rw [htt]
  rw [hgo] at hjv ⊢
  obtain ⟨n0, hn0⟩ : ∃ n0, kNu k false = n0 := ⟨_, rfl⟩
  obtain ⟨n1, hn1⟩ : ∃ n1, kNu k true = n1 := ⟨_, rfl⟩
  have HNU0 := Aside0.mk hn0
  have HNU1 := Aside0.mk hn1
  have HAT0 : Aside0 (∀ i : Nat, i < n0 → tt i = (false, kLo k false + 1 + (i : Int))) := ⟨fun i hi => by rw [htt]; exact kTests_at0 k i (by omega)⟩
  have HAT1 : Aside0 (∀ i : Nat, i < n1 → tt (n0 + i) = (true, kLo k true + 1 + (i : Int))) := ⟨fun i hi => by rw [htt, ← hn0]; exact kTests_at1 k i (by omega)⟩
  have HMEM : Aside0 (∀ i, i < (kTests k).length → tt i ∈ kTests k) := ⟨fun i hi => by rw [htt]; show (kTests k).getD i (false, 0) ∈ kTests k; rw [List.getD_eq_getElem?_getD, List.getElem?_eq_getElem hi]; exact List.getElem_mem hi⟩
  have HJL := Aside0.mk hj
  have HLN : Aside0 ((kTests k).length = n0 + n1) := ⟨by rw [kTests_len2, hn0, hn1]⟩
  obtain ⟨fw, hfw⟩ : ∃ fw, kS false k = fw := ⟨_, rfl⟩
  have HF : Aside0 (∀ (W : World), Below w0.heap.size w0 W → Kd.R (Kd.int .i64) 3 W w0.heap.size (fun k_ => k_ = g) (.slice (some ⟨g, 0, none⟩) N cap) t → Calls Try.prog 13 #[.slice (some ⟨g, 0, none⟩) N cap, .agg #[.int .i64 k.a, .int .i64 k.b, .int .i64 k.c, .int .i64 k.d, .int .i64 k.w, .int .i64 k.s], .bool true] W fun e' w' => ∃ t', e' = .returned (.int .i64 fw) ∧ KTab false t' ∧ Kd.R (Kd.int .i64) 3 w' w0.heap.size (fun k_ => k_ = g) (.slice (some ⟨g, 0, none⟩) N cap) t' ∧ Below w0.heap.size w0 w' ∧ Kept W w' (fun k_ => k_ = g)) := ⟨fun W h1 h2 => by
    have := FewC_all false 13 N k g cap t w0 W hN hk (by have := kMu_le hk; omega) hT h1 h2
    rw [hfw] at this
    exact this⟩
  rw [hfw] at hjv hjb
  have HJV := Aside0.mk hjv
  have HJB : Aside0 (∀ i, i < j → kSW false k (tt i) ≠ fw) := ⟨fun i hi => by rw [htt]; exact hjb i hi⟩
  have HNN := Aside0.mk hN
  have HT := Aside0.mk hT
  have HB := Aside0.mk hB
  have HR := Aside0.mk hR
  have HOK := Aside0.mk hk
  clear htt hgo hn0 hn1 hfw hjv hjb hN hT hB hR hk hj
  go_enter Try.func20, Try.ntmps20
  go_wp2_with (first
    | ((with_reducible refine gate_dst (N := 3) rfl ?_); refine box_event ?hg (N := 3) ?hd (cs := #[.int .i64 k.a, .int .i64 k.b, .int .i64 k.c, .int .i64 k.d, .int .i64 k.w, .int .i64 k.s]) (t := 31) ?hr ?_; (case hd => rfl); (case hg => rfl); (case hr => first | (go_simp; done) | (go_simp; rfl)); intro gb hg w2 hbox hb; have NE := Aside0.mk (show gb ≠ g by intro he; have h1_ := Kd.R_lt HR.out g (by simp [Value.ownBlock]); omega); have n0_ := Aside0.mk (below_step HB.out hb); have n1_ := Aside0.mk (Kd.R_below HR.out hb); have n2_ := Aside0.mk (Kept.of_below hb (fun k_ => k_ = g)); clear HB HR; have HB := n0_; have HR := n1_; have HKp := n2_; have KB := Aside0.mk hbox; clear n0_ n1_ n2_; have hb0 : w2.cell? ⟨gb, 0, none⟩ = some (.int .i64 k.a) := (blk_cell KB.out 0).trans rfl; have hb1 : w2.cell? ⟨gb, 1, none⟩ = some (.int .i64 k.b) := (blk_cell KB.out 1).trans rfl; have hb2 : w2.cell? ⟨gb, 2, none⟩ = some (.int .i64 k.c) := (blk_cell KB.out 2).trans rfl; have hb3 : w2.cell? ⟨gb, 3, none⟩ = some (.int .i64 k.d) := (blk_cell KB.out 3).trans rfl; have hb4 : w2.cell? ⟨gb, 4, none⟩ = some (.int .i64 k.w) := (blk_cell KB.out 4).trans rfl; have hb5 : w2.cell? ⟨gb, 5, none⟩ = some (.int .i64 k.s) := (blk_cell KB.out 5).trans rfl; clear hg hbox hb)
    | (go_at_call 13; with_reducible refine (HF.out _ HB.out HR.out).mono ?_; rintro e_ w3 ⟨t', rfl, hT, hr, hb, hk⟩; have n2_ := Aside0.mk (HKp.out.then_ hk (fun k_ h_ => Or.inl h_)); have n3_ := Aside0.mk (blk_kept KB.out hk NE.out); clear HB HR HKp KB HT; have HB := Aside0.mk hb; have HR := Aside0.mk hr; have HT := Aside0.mk hT; have HKp := n2_; have KB := n3_; clear n2_ n3_; clear hb0 hb1 hb2 hb3 hb4 hb5; have hb0 : w3.cell? ⟨gb, 0, none⟩ = some (.int .i64 k.a) := (blk_cell KB.out 0).trans rfl; have hb1 : w3.cell? ⟨gb, 1, none⟩ = some (.int .i64 k.b) := (blk_cell KB.out 1).trans rfl; have hb2 : w3.cell? ⟨gb, 2, none⟩ = some (.int .i64 k.c) := (blk_cell KB.out 2).trans rfl; have hb3 : w3.cell? ⟨gb, 3, none⟩ = some (.int .i64 k.d) := (blk_cell KB.out 3).trans rfl; have hb4 : w3.cell? ⟨gb, 4, none⟩ = some (.int .i64 k.w) := (blk_cell KB.out 4).trans rfl; have hb5 : w3.cell? ⟨gb, 5, none⟩ = some (.int .i64 k.s) := (blk_cell KB.out 5).trans rfl; clear hb hr hT hk))
  clear HF hb0 hb1 hb2 hb3 hb4 hb5
  go_loopg [7] 2 (fun gg v7 wr => ∃ (q : Nat) (tb : List Int), v7 = .int .i64 q ∧ (q = 0 ∨ (q = 1 ∧ Aside0 (n0 ≤ j))) ∧ 2 - q ≤ gg ∧ Aside0 (KTab false tb) ∧ Aside0 (Kd.R (Kd.int .i64) 3 wr w0.heap.size (fun k_ => k_ = g) (.slice (some ⟨g, 0, none⟩) N cap) tb) ∧ Aside0 (Below w0.heap.size w0 wr) ∧ Aside0 (Kept W wr (fun k_ => k_ = g)) ∧ Aside0 (wr.heap[gb]? = some (.cells #[.int .i64 k.a, .int .i64 k.b, .int .i64 k.c, .int .i64 k.d, .int .i64 k.w, .int .i64 k.s] 31 (0, 0))))
  case atStart => exact ⟨0, t', rfl, Or.inl rfl, Nat.le_refl _, HT, HR, HB, HKp, KB⟩
  case round =>
    clear HT HR HB HKp KB
    obtain ⟨q, tb, rfl, hq, hgg, HT, HR, HB, HKp, KB⟩ := hrel
    have hb0 : wr.cell? ⟨gb, 0, none⟩ = some (.int .i64 k.a) := (blk_cell KB.out 0).trans rfl
    have hb1 : wr.cell? ⟨gb, 1, none⟩ = some (.int .i64 k.b) := (blk_cell KB.out 1).trans rfl
    have hb2 : wr.cell? ⟨gb, 2, none⟩ = some (.int .i64 k.c) := (blk_cell KB.out 2).trans rfl
    have hb3 : wr.cell? ⟨gb, 3, none⟩ = some (.int .i64 k.d) := (blk_cell KB.out 3).trans rfl
    have hb4 : wr.cell? ⟨gb, 4, none⟩ = some (.int .i64 k.w) := (blk_cell KB.out 4).trans rfl
    have hb5 : wr.cell? ⟨gb, 5, none⟩ = some (.int .i64 k.s) := (blk_cell KB.out 5).trans rfl
    rcases hq with rfl | ⟨rfl, hq9⟩
    · obtain ⟨lo, hlo⟩ : ∃ lo, lo = kLo k false := ⟨_, rfl⟩
      have hr := kLoNu k HOK.out false
      have hmay := kiMay_is k HOK.out false
      rw [← hlo] at hmay hr
      rw [HNU0.out] at hmay hr
      have HMAY := Aside0.mk (fun (W : World) => spec_kiMay.calls 1 k.a k.b k.c k.d k.w k.s false _ _ W hmay)
      have HAT : Aside0 (∀ i : Nat, i < n0 → tt (i) = (false, lo + 1 + (i : Int))) := ⟨fun i hi => by rw [hlo]; exact HAT0.out i hi⟩
      obtain ⟨hr1, hr2, hr3⟩ := hr
      clear hlo hmay
      go_wp2_with (go_at_call 25; with_reducible refine (HMAY.out _).mono ?_; rintro e_ w3 ⟨rfl, hb⟩; have n0_ := Aside0.mk (below_step HB.out hb); have n1_ := Aside0.mk (Kd.R_below HR.out hb); have n2_ := Aside0.mk (HKp.out.below hb); have n3_ := Aside0.mk (blk_below KB.out hb); clear HB HR HKp KB; have HB := n0_; have HR := n1_; have HKp := n2_; have KB := n3_; clear n0_ n1_ n2_ n3_; clear hb0 hb1 hb2 hb3 hb4 hb5; have hb0 : w3.cell? ⟨gb, 0, none⟩ = some (.int .i64 k.a) := (blk_cell KB.out 0).trans rfl; have hb1 : w3.cell? ⟨gb, 1, none⟩ = some (.int .i64 k.b) := (blk_cell KB.out 1).trans rfl; have hb2 : w3.cell? ⟨gb, 2, none⟩ = some (.int .i64 k.c) := (blk_cell KB.out 2).trans rfl; have hb3 : w3.cell? ⟨gb, 3, none⟩ = some (.int .i64 k.d) := (blk_cell KB.out 3).trans rfl; have hb4 : w3.cell? ⟨gb, 4, none⟩ = some (.int .i64 k.w) := (blk_cell KB.out 4).trans rfl; have hb5 : w3.cell? ⟨gb, 5, none⟩ = some (.int .i64 k.s) := (blk_cell KB.out 5).trans rfl; clear hb)
      clear HMAY hb0 hb1 hb2 hb3 hb4 hb5
      go_loopg [10] n0 (fun gg v10 wr => ∃ (i : Nat) (tb : List Int), v10 = .int .i64 (lo + 1 + (i : Int)) ∧ i ≤ n0 ∧ n0 - i ≤ gg ∧ Aside0 (i ≤ j) ∧ Aside0 (KTab false tb) ∧ Aside0 (Kd.R (Kd.int .i64) 3 wr w0.heap.size (fun k_ => k_ = g) (.slice (some ⟨g, 0, none⟩) N cap) tb) ∧ Aside0 (Below w0.heap.size w0 wr) ∧ Aside0 (Kept W wr (fun k_ => k_ = g)) ∧ Aside0 (wr.heap[gb]? = some (.cells #[.int .i64 k.a, .int .i64 k.b, .int .i64 k.c, .int .i64 k.d, .int .i64 k.w, .int .i64 k.s] 31 (0, 0))))
      case atStart => exact ⟨0, tb, by simp, Nat.zero_le _, Nat.le_refl _, ⟨by omega⟩, HT, HR, HB, HKp, KB⟩
      case round =>
        clear HT HR HB HKp KB
        obtain ⟨i, tb, rfl, hi, hgg2, HIJ, HT, HR, HB, HKp, KB⟩ := hrel
        by_cases hlt : i < n0
        · have hz1 : lo + 1 + (i : Int) ≤ lo + (n0 : Int) := by omega
          have hat := HAT.out i hlt
          have hw1 : IntKind.i64.wrap (lo + 1 + (i : Int) + 1) = lo + 1 + (i : Int) + 1 := by rw [i64_w]; unfold wrap64; omega
          have hmem := HMEM.out (i) (by have h1 := HIJ.out; have h2 := HJL.out; clear hw1; omega)
          rw [hat] at hmem
          have HWI : Aside0 (∀ (tb : List Int) (W : World), KTab false tb → Below w0.heap.size w0 W → Kd.R (Kd.int .i64) 3 W w0.heap.size (fun k_ => k_ = g) (.slice (some ⟨g, 0, none⟩) N cap) tb → Calls Try.prog 27 #[.slice (some ⟨g, 0, none⟩) N cap, .agg #[.int .i64 k.a, .int .i64 k.b, .int .i64 k.c, .int .i64 k.d, .int .i64 k.w, .int .i64 k.s], .bool false, .int .i64 (lo + 1 + (i : Int)), .bool true] W fun e' w' => ∃ t', e' = .returned (.int .i64 (kSW false k (false, lo + 1 + (i : Int)))) ∧ KTab false t' ∧ Kd.R (Kd.int .i64) 3 w' w0.heap.size (fun k_ => k_ = g) (.slice (some ⟨g, 0, none⟩) N cap) t' ∧ Below w0.heap.size w0 w' ∧ Kept W w' (fun k_ => k_ = g)) :=
            ⟨fun tb W h1 h2 h3 => kiWith_of false 12 (FewC_all false 12) N HNN.out k HOK.out (kMu_le HOK.out) false (lo + 1 + (i : Int)) hmem g cap tb w0 W h1 h2 h3⟩
          clear hmem
          by_cases hj1 : i = j
          · have hv := HJV.out
            rw [← hj1, hat] at hv
            have HRES : Aside0 (tt j = (false, lo + 1 + (i : Int))) := ⟨by rw [← hj1]; exact hat⟩
            have hqq : (kSW false k (false, lo + 1 + (i : Int)) == fw) = true := by rw [beq_iff_eq]; exact hv
            generalize kSW false k (false, lo + 1 + (i : Int)) = x at HWI hqq
            clear hv hat hj1 HIJ
            have hb0 : wr.cell? ⟨gb, 0, none⟩ = some (.int .i64 k.a) := (blk_cell KB.out 0).trans rfl
            have hb1 : wr.cell? ⟨gb, 1, none⟩ = some (.int .i64 k.b) := (blk_cell KB.out 1).trans rfl
            have hb2 : wr.cell? ⟨gb, 2, none⟩ = some (.int .i64 k.c) := (blk_cell KB.out 2).trans rfl
            have hb3 : wr.cell? ⟨gb, 3, none⟩ = some (.int .i64 k.d) := (blk_cell KB.out 3).trans rfl
            have hb4 : wr.cell? ⟨gb, 4, none⟩ = some (.int .i64 k.w) := (blk_cell KB.out 4).trans rfl
            have hb5 : wr.cell? ⟨gb, 5, none⟩ = some (.int .i64 k.s) := (blk_cell KB.out 5).trans rfl
            go_wp2_with (go_at_call 27; with_reducible refine (HWI.out _ _ HT.out HB.out HR.out).mono ?_; rintro e_ w3 ⟨t', rfl, hT, hr, hb, hk⟩; have n2_ := Aside0.mk (HKp.out.then_ hk (fun k_ h_ => Or.inl h_)); have n3_ := Aside0.mk (blk_kept KB.out hk NE.out); clear HB HR HKp KB HT; have HB := Aside0.mk hb; have HR := Aside0.mk hr; have HT := Aside0.mk hT; have HKp := n2_; have KB := n3_; clear n2_ n3_; clear hb0 hb1 hb2 hb3 hb4 hb5; have hb0 : w3.cell? ⟨gb, 0, none⟩ = some (.int .i64 k.a) := (blk_cell KB.out 0).trans rfl; have hb1 : w3.cell? ⟨gb, 1, none⟩ = some (.int .i64 k.b) := (blk_cell KB.out 1).trans rfl; have hb2 : w3.cell? ⟨gb, 2, none⟩ = some (.int .i64 k.c) := (blk_cell KB.out 2).trans rfl; have hb3 : w3.cell? ⟨gb, 3, none⟩ = some (.int .i64 k.d) := (blk_cell KB.out 3).trans rfl; have hb4 : w3.cell? ⟨gb, 4, none⟩ = some (.int .i64 k.w) := (blk_cell KB.out 4).trans rfl; have hb5 : w3.cell? ⟨gb, 5, none⟩ = some (.int .i64 k.s) := (blk_cell KB.out 5).trans rfl; clear hb hr hT hk)
            go_ret2
            exact ⟨by rw [HRES.out]; rfl, HB.out⟩
          · have hij := HIJ.out
            have hv := HJB.out (i) (by clear hw1; omega)
            rw [hat] at hv
            have hqq : (kSW false k (false, lo + 1 + (i : Int)) == fw) = false := by rw [beq_eq_false_iff_ne]; exact hv
            generalize kSW false k (false, lo + 1 + (i : Int)) = x at HWI hqq
            have HIJ2 : Aside0 (i + 1 ≤ j) := ⟨by clear hw1; omega⟩
            clear hv hat hj1 HIJ hij
            have hb0 : wr.cell? ⟨gb, 0, none⟩ = some (.int .i64 k.a) := (blk_cell KB.out 0).trans rfl
            have hb1 : wr.cell? ⟨gb, 1, none⟩ = some (.int .i64 k.b) := (blk_cell KB.out 1).trans rfl
            have hb2 : wr.cell? ⟨gb, 2, none⟩ = some (.int .i64 k.c) := (blk_cell KB.out 2).trans rfl
            have hb3 : wr.cell? ⟨gb, 3, none⟩ = some (.int .i64 k.d) := (blk_cell KB.out 3).trans rfl
            have hb4 : wr.cell? ⟨gb, 4, none⟩ = some (.int .i64 k.w) := (blk_cell KB.out 4).trans rfl
            have hb5 : wr.cell? ⟨gb, 5, none⟩ = some (.int .i64 k.s) := (blk_cell KB.out 5).trans rfl
            go_wp2_with (go_at_call 27; with_reducible refine (HWI.out _ _ HT.out HB.out HR.out).mono ?_; rintro e_ w3 ⟨t', rfl, hT, hr, hb, hk⟩; have n2_ := Aside0.mk (HKp.out.then_ hk (fun k_ h_ => Or.inl h_)); have n3_ := Aside0.mk (blk_kept KB.out hk NE.out); clear HB HR HKp KB HT; have HB := Aside0.mk hb; have HR := Aside0.mk hr; have HT := Aside0.mk hT; have HKp := n2_; have KB := n3_; clear n2_ n3_; clear hb0 hb1 hb2 hb3 hb4 hb5; have hb0 : w3.cell? ⟨gb, 0, none⟩ = some (.int .i64 k.a) := (blk_cell KB.out 0).trans rfl; have hb1 : w3.cell? ⟨gb, 1, none⟩ = some (.int .i64 k.b) := (blk_cell KB.out 1).trans rfl; have hb2 : w3.cell? ⟨gb, 2, none⟩ = some (.int .i64 k.c) := (blk_cell KB.out 2).trans rfl; have hb3 : w3.cell? ⟨gb, 3, none⟩ = some (.int .i64 k.d) := (blk_cell KB.out 3).trans rfl; have hb4 : w3.cell? ⟨gb, 4, none⟩ = some (.int .i64 k.w) := (blk_cell KB.out 4).trans rfl; have hb5 : w3.cell? ⟨gb, 5, none⟩ = some (.int .i64 k.s) := (blk_cell KB.out 5).trans rfl; clear hb hr hT hk)
            go_roundg (n0 - (i + 1))
            case measure => omega
            case rel => exact ⟨i + 1, _, by rw [show lo + 1 + ((i + 1 : Nat) : Int) = lo + 1 + (i : Int) + 1 by clear hw1; omega], by clear hw1; omega, by clear hw1; omega, ⟨by have h9 := HIJ2.out; clear hw1; omega⟩, HT, HR, HB, HKp, KB⟩
        · have hz1 : ¬ lo + 1 + (i : Int) ≤ lo + (n0 : Int) := by omega
          obtain rfl : i = n0 := by omega
          go_wp2
          go_roundg 1
          case measure => omega
          case rel => exact ⟨1, tb, by go_num, Or.inr ⟨rfl, HIJ⟩, by omega, HT, HR, HB, HKp, KB⟩

    · obtain ⟨lo, hlo⟩ : ∃ lo, lo = kLo k true := ⟨_, rfl⟩
      have hr := kLoNu k HOK.out true
      have hmay := kiMay_is k HOK.out true
      rw [← hlo] at hmay hr
      rw [HNU1.out] at hmay hr
      have HMAY := Aside0.mk (fun (W : World) => spec_kiMay.calls 1 k.a k.b k.c k.d k.w k.s true _ _ W hmay)
      have HAT : Aside0 (∀ i : Nat, i < n1 → tt (n0 + i) = (true, lo + 1 + (i : Int))) := ⟨fun i hi => by rw [hlo]; exact HAT1.out i hi⟩
      obtain ⟨hr1, hr2, hr3⟩ := hr
      clear hlo hmay
      go_wp2_with (go_at_call 25; with_reducible refine (HMAY.out _).mono ?_; rintro e_ w3 ⟨rfl, hb⟩; have n0_ := Aside0.mk (below_step HB.out hb); have n1_ := Aside0.mk (Kd.R_below HR.out hb); have n2_ := Aside0.mk (HKp.out.below hb); have n3_ := Aside0.mk (blk_below KB.out hb); clear HB HR HKp KB; have HB := n0_; have HR := n1_; have HKp := n2_; have KB := n3_; clear n0_ n1_ n2_ n3_; clear hb0 hb1 hb2 hb3 hb4 hb5; have hb0 : w3.cell? ⟨gb, 0, none⟩ = some (.int .i64 k.a) := (blk_cell KB.out 0).trans rfl; have hb1 : w3.cell? ⟨gb, 1, none⟩ = some (.int .i64 k.b) := (blk_cell KB.out 1).trans rfl; have hb2 : w3.cell? ⟨gb, 2, none⟩ = some (.int .i64 k.c) := (blk_cell KB.out 2).trans rfl; have hb3 : w3.cell? ⟨gb, 3, none⟩ = some (.int .i64 k.d) := (blk_cell KB.out 3).trans rfl; have hb4 : w3.cell? ⟨gb, 4, none⟩ = some (.int .i64 k.w) := (blk_cell KB.out 4).trans rfl; have hb5 : w3.cell? ⟨gb, 5, none⟩ = some (.int .i64 k.s) := (blk_cell KB.out 5).trans rfl; clear hb)
      clear HMAY hb0 hb1 hb2 hb3 hb4 hb5
      go_loopg [10] n1 (fun gg v10 wr => ∃ (i : Nat) (tb : List Int), v10 = .int .i64 (lo + 1 + (i : Int)) ∧ i ≤ n1 ∧ n1 - i ≤ gg ∧ Aside0 (n0 + i ≤ j) ∧ Aside0 (KTab false tb) ∧ Aside0 (Kd.R (Kd.int .i64) 3 wr w0.heap.size (fun k_ => k_ = g) (.slice (some ⟨g, 0, none⟩) N cap) tb) ∧ Aside0 (Below w0.heap.size w0 wr) ∧ Aside0 (Kept W wr (fun k_ => k_ = g)) ∧ Aside0 (wr.heap[gb]? = some (.cells #[.int .i64 k.a, .int .i64 k.b, .int .i64 k.c, .int .i64 k.d, .int .i64 k.w, .int .i64 k.s] 31 (0, 0))))
      case atStart => exact ⟨0, tb, by simp, Nat.zero_le _, Nat.le_refl _, ⟨by have h9 := hq9.out; omega⟩, HT, HR, HB, HKp, KB⟩
      case round =>
        clear HT HR HB HKp KB
        obtain ⟨i, tb, rfl, hi, hgg2, HIJ, HT, HR, HB, HKp, KB⟩ := hrel
        by_cases hlt : i < n1
        · have hz1 : lo + 1 + (i : Int) ≤ lo + (n1 : Int) := by omega
          have hat := HAT.out i hlt
          have hw1 : IntKind.i64.wrap (lo + 1 + (i : Int) + 1) = lo + 1 + (i : Int) + 1 := by rw [i64_w]; unfold wrap64; omega
          have hmem := HMEM.out (n0 + i) (by have h1 := HIJ.out; have h2 := HJL.out; clear hw1; omega)
          rw [hat] at hmem
          have HWI : Aside0 (∀ (tb : List Int) (W : World), KTab false tb → Below w0.heap.size w0 W → Kd.R (Kd.int .i64) 3 W w0.heap.size (fun k_ => k_ = g) (.slice (some ⟨g, 0, none⟩) N cap) tb → Calls Try.prog 27 #[.slice (some ⟨g, 0, none⟩) N cap, .agg #[.int .i64 k.a, .int .i64 k.b, .int .i64 k.c, .int .i64 k.d, .int .i64 k.w, .int .i64 k.s], .bool true, .int .i64 (lo + 1 + (i : Int)), .bool true] W fun e' w' => ∃ t', e' = .returned (.int .i64 (kSW false k (true, lo + 1 + (i : Int)))) ∧ KTab false t' ∧ Kd.R (Kd.int .i64) 3 w' w0.heap.size (fun k_ => k_ = g) (.slice (some ⟨g, 0, none⟩) N cap) t' ∧ Below w0.heap.size w0 w' ∧ Kept W w' (fun k_ => k_ = g)) :=
            ⟨fun tb W h1 h2 h3 => kiWith_of false 12 (FewC_all false 12) N HNN.out k HOK.out (kMu_le HOK.out) true (lo + 1 + (i : Int)) hmem g cap tb w0 W h1 h2 h3⟩
          clear hmem
          by_cases hj1 : n0 + i = j
          · have hv := HJV.out
            rw [← hj1, hat] at hv
            have HRES : Aside0 (tt j = (true, lo + 1 + (i : Int))) := ⟨by rw [← hj1]; exact hat⟩
            have hqq : (kSW false k (true, lo + 1 + (i : Int)) == fw) = true := by rw [beq_iff_eq]; exact hv
            generalize kSW false k (true, lo + 1 + (i : Int)) = x at HWI hqq
            clear hv hat hj1 HIJ
            have hb0 : wr.cell? ⟨gb, 0, none⟩ = some (.int .i64 k.a) := (blk_cell KB.out 0).trans rfl
            have hb1 : wr.cell? ⟨gb, 1, none⟩ = some (.int .i64 k.b) := (blk_cell KB.out 1).trans rfl
            have hb2 : wr.cell? ⟨gb, 2, none⟩ = some (.int .i64 k.c) := (blk_cell KB.out 2).trans rfl
            have hb3 : wr.cell? ⟨gb, 3, none⟩ = some (.int .i64 k.d) := (blk_cell KB.out 3).trans rfl
            have hb4 : wr.cell? ⟨gb, 4, none⟩ = some (.int .i64 k.w) := (blk_cell KB.out 4).trans rfl
            have hb5 : wr.cell? ⟨gb, 5, none⟩ = some (.int .i64 k.s) := (blk_cell KB.out 5).trans rfl
            go_wp2_with (go_at_call 27; with_reducible refine (HWI.out _ _ HT.out HB.out HR.out).mono ?_; rintro e_ w3 ⟨t', rfl, hT, hr, hb, hk⟩; have n2_ := Aside0.mk (HKp.out.then_ hk (fun k_ h_ => Or.inl h_)); have n3_ := Aside0.mk (blk_kept KB.out hk NE.out); clear HB HR HKp KB HT; have HB := Aside0.mk hb; have HR := Aside0.mk hr; have HT := Aside0.mk hT; have HKp := n2_; have KB := n3_; clear n2_ n3_; clear hb0 hb1 hb2 hb3 hb4 hb5; have hb0 : w3.cell? ⟨gb, 0, none⟩ = some (.int .i64 k.a) := (blk_cell KB.out 0).trans rfl; have hb1 : w3.cell? ⟨gb, 1, none⟩ = some (.int .i64 k.b) := (blk_cell KB.out 1).trans rfl; have hb2 : w3.cell? ⟨gb, 2, none⟩ = some (.int .i64 k.c) := (blk_cell KB.out 2).trans rfl; have hb3 : w3.cell? ⟨gb, 3, none⟩ = some (.int .i64 k.d) := (blk_cell KB.out 3).trans rfl; have hb4 : w3.cell? ⟨gb, 4, none⟩ = some (.int .i64 k.w) := (blk_cell KB.out 4).trans rfl; have hb5 : w3.cell? ⟨gb, 5, none⟩ = some (.int .i64 k.s) := (blk_cell KB.out 5).trans rfl; clear hb hr hT hk)
            go_ret2
            exact ⟨by rw [HRES.out]; rfl, HB.out⟩
          · have hij := HIJ.out
            have hv := HJB.out (n0 + i) (by clear hw1; omega)
            rw [hat] at hv
            have hqq : (kSW false k (true, lo + 1 + (i : Int)) == fw) = false := by rw [beq_eq_false_iff_ne]; exact hv
            generalize kSW false k (true, lo + 1 + (i : Int)) = x at HWI hqq
            have HIJ2 : Aside0 (n0 + i + 1 ≤ j) := ⟨by clear hw1; omega⟩
            clear hv hat hj1 HIJ hij
            have hb0 : wr.cell? ⟨gb, 0, none⟩ = some (.int .i64 k.a) := (blk_cell KB.out 0).trans rfl
            have hb1 : wr.cell? ⟨gb, 1, none⟩ = some (.int .i64 k.b) := (blk_cell KB.out 1).trans rfl
            have hb2 : wr.cell? ⟨gb, 2, none⟩ = some (.int .i64 k.c) := (blk_cell KB.out 2).trans rfl
            have hb3 : wr.cell? ⟨gb, 3, none⟩ = some (.int .i64 k.d) := (blk_cell KB.out 3).trans rfl
            have hb4 : wr.cell? ⟨gb, 4, none⟩ = some (.int .i64 k.w) := (blk_cell KB.out 4).trans rfl
            have hb5 : wr.cell? ⟨gb, 5, none⟩ = some (.int .i64 k.s) := (blk_cell KB.out 5).trans rfl
            go_wp2_with (go_at_call 27; with_reducible refine (HWI.out _ _ HT.out HB.out HR.out).mono ?_; rintro e_ w3 ⟨t', rfl, hT, hr, hb, hk⟩; have n2_ := Aside0.mk (HKp.out.then_ hk (fun k_ h_ => Or.inl h_)); have n3_ := Aside0.mk (blk_kept KB.out hk NE.out); clear HB HR HKp KB HT; have HB := Aside0.mk hb; have HR := Aside0.mk hr; have HT := Aside0.mk hT; have HKp := n2_; have KB := n3_; clear n2_ n3_; clear hb0 hb1 hb2 hb3 hb4 hb5; have hb0 : w3.cell? ⟨gb, 0, none⟩ = some (.int .i64 k.a) := (blk_cell KB.out 0).trans rfl; have hb1 : w3.cell? ⟨gb, 1, none⟩ = some (.int .i64 k.b) := (blk_cell KB.out 1).trans rfl; have hb2 : w3.cell? ⟨gb, 2, none⟩ = some (.int .i64 k.c) := (blk_cell KB.out 2).trans rfl; have hb3 : w3.cell? ⟨gb, 3, none⟩ = some (.int .i64 k.d) := (blk_cell KB.out 3).trans rfl; have hb4 : w3.cell? ⟨gb, 4, none⟩ = some (.int .i64 k.w) := (blk_cell KB.out 4).trans rfl; have hb5 : w3.cell? ⟨gb, 5, none⟩ = some (.int .i64 k.s) := (blk_cell KB.out 5).trans rfl; clear hb hr hT hk)
            go_roundg (n1 - (i + 1))
            case measure => omega
            case rel => exact ⟨i + 1, _, by rw [show lo + 1 + ((i + 1 : Nat) : Int) = lo + 1 + (i : Int) + 1 by clear hw1; omega], by clear hw1; omega, by clear hw1; omega, ⟨by have h9 := HIJ2.out; clear hw1; omega⟩, HT, HR, HB, HKp, KB⟩
        · have hz1 : ¬ lo + 1 + (i : Int) ≤ lo + (n1 : Int) := by omega
          obtain rfl : i = n1 := by omega
          exact absurd HIJ.out (by have h2 := HJL.out; have h3 := HLN.out; omega)


end Go.Proofs.Yteboofglcnceoaa.PrintA
