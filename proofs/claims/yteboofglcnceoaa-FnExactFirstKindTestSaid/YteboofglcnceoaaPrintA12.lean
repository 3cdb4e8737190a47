-- written by this session's own driver (wip/gen.py) with the kit's print and contracts of our own
import Derived.Test.YteboofglcnceoaaPrintA0
import Derived.Test.YteboofglcnceoaaPrintA5
import Derived.Test.YteboofglcnceoaaPrintA6
import Derived.Test.YteboofglcnceoaaPrintA7
import Derived.Test.YteboofglcnceoaaPrintA8
import Derived.Test.YteboofglcnceoaaPrintA10
import Derived.Test.YteboofglcnceoaaPrintA11
namespace Go.Proofs.Yteboofglcnceoaa.PrintA
open Go.RowKit Go.Proofs.YteboofglcnceoaaLib Go.Proofs.YteboofglcnceoaaW.PrintWords Go.Proofs.YteboofglcnceoaaW.PrintLast Go.Proofs.YteboofglcnceoaaW.PrintMore
attribute [local go_sem] max2_int min2_int max_two min_two max_three min_three max_four min_four   -- for this text's walks alone
set_option linter.unusedVariables false
set_option linter.unusedSimpArgs false

/-! ### spec_kiFew: function 13, a contract of our own -/
def FewC (al : Bool) (m : Nat) : Prop := ∀ (N : Nat) (k : KSt) (g cap : Nat) (t : List Int) (w0 W : World), N = 38416 → KOk k → kMu k < m → KTab al t → Below w0.heap.size w0 W → Kd.R (Kd.int .i64) 3 W w0.heap.size (fun k_ => k_ = g) (.slice (some ⟨g, 0, none⟩) N cap) t →
    Calls Try.prog 13 #[.slice (some ⟨g, 0, none⟩) N cap, .agg #[.int .i64 k.a, .int .i64 k.b, .int .i64 k.c, .int .i64 k.d, .int .i64 k.w, .int .i64 k.s], .bool (!al)] W fun e' w' => ∃ t', e' = .returned (.int .i64 (kS al k)) ∧ KTab al t' ∧ Kd.R (Kd.int .i64) 3 w' w0.heap.size (fun k_ => k_ = g) (.slice (some ⟨g, 0, none⟩) N cap) t' ∧ Below w0.heap.size w0 w' ∧ Kept W w' (fun k_ => k_ = g)
set_option maxHeartbeats 8000000 in
set_option maxRecDepth 100000 in
theorem kiWith_of (al : Bool) (m : Nat) (hP : FewC al m) (N : Nat) (hN : N = 38416) (k : KSt) (hk : KOk k) (hm : kMu k ≤ m) (st : Bool) (f : Int) (ht : (st, f) ∈ kTests k) (g cap : Nat) (t : List Int) (w0 W : World) (hT : KTab al t) (hB : Below w0.heap.size w0 W) (hR : Kd.R (Kd.int .i64) 3 W w0.heap.size (fun k_ => k_ = g) (.slice (some ⟨g, 0, none⟩) N cap) t) :
    Calls Try.prog 27 #[.slice (some ⟨g, 0, none⟩) N cap, .agg #[.int .i64 k.a, .int .i64 k.b, .int .i64 k.c, .int .i64 k.d, .int .i64 k.w, .int .i64 k.s], .bool st, .int .i64 f, .bool (!al)] W fun e' w' => ∃ t', e' = .returned (.int .i64 (kSW al k (st, f))) ∧ KTab al t' ∧ Kd.R (Kd.int .i64) 3 w' w0.heap.size (fun k_ => k_ = g) (.slice (some ⟨g, 0, none⟩) N cap) t' ∧ Below w0.heap.size w0 w' ∧ Kept W w' (fun k_ => k_ = g) := by
  have o1 := kAft_ok hk _ ht true
  have o2 := kAft_ok hk _ ht false
  have a1 := kiAfter_is k hk _ ht true
  have a2 := kiAfter_is k hk _ ht false
  simp only at o1 o2 a1 a2
  have hv : kSW al k (st, f) = min 1000 (1 + max (kS al (kAft k st f true)) (kS al (kAft k st f false))) := rfl
  have r1 := kS_range al (kAft k st f true)
  have r2 := kS_range al (kAft k st f false)
  have HF1 : Aside0 (∀ (t : List Int) (W : World), KTab al t → Below w0.heap.size w0 W → Kd.R (Kd.int .i64) 3 W w0.heap.size (fun k_ => k_ = g) (.slice (some ⟨g, 0, none⟩) N cap) t → Calls Try.prog 13 #[.slice (some ⟨g, 0, none⟩) N cap, .agg #[.int .i64 (kAft k st f true).a, .int .i64 (kAft k st f true).b, .int .i64 (kAft k st f true).c, .int .i64 (kAft k st f true).d, .int .i64 (kAft k st f true).w, .int .i64 (kAft k st f true).s], .bool (!al)] W fun e' w' => ∃ t', e' = .returned (.int .i64 (kS al (kAft k st f true))) ∧ KTab al t' ∧ Kd.R (Kd.int .i64) 3 w' w0.heap.size (fun k_ => k_ = g) (.slice (some ⟨g, 0, none⟩) N cap) t' ∧ Below w0.heap.size w0 w' ∧ Kept W w' (fun k_ => k_ = g)) := ⟨fun t W h1 h2 h3 => hP N _ g cap t w0 W hN o1.1 (by omega) h1 h2 h3⟩
  have HF2 : Aside0 (∀ (t : List Int) (W : World), KTab al t → Below w0.heap.size w0 W → Kd.R (Kd.int .i64) 3 W w0.heap.size (fun k_ => k_ = g) (.slice (some ⟨g, 0, none⟩) N cap) t → Calls Try.prog 13 #[.slice (some ⟨g, 0, none⟩) N cap, .agg #[.int .i64 (kAft k st f false).a, .int .i64 (kAft k st f false).b, .int .i64 (kAft k st f false).c, .int .i64 (kAft k st f false).d, .int .i64 (kAft k st f false).w, .int .i64 (kAft k st f false).s], .bool (!al)] W fun e' w' => ∃ t', e' = .returned (.int .i64 (kS al (kAft k st f false))) ∧ KTab al t' ∧ Kd.R (Kd.int .i64) 3 w' w0.heap.size (fun k_ => k_ = g) (.slice (some ⟨g, 0, none⟩) N cap) t' ∧ Below w0.heap.size w0 w' ∧ Kept W w' (fun k_ => k_ = g)) := ⟨fun t W h1 h2 h3 => hP N _ g cap t w0 W hN o2.1 (by omega) h1 h2 h3⟩
  have HA1 := Aside0.mk (fun (W : World) => spec_kiAfter.calls 1 k.a k.b k.c k.d k.w k.s st f true _ _ _ _ _ _ W a1)
  have HA2 := Aside0.mk (fun (W : World) => spec_kiAfter.calls 1 k.a k.b k.c k.d k.w k.s st f false _ _ _ _ _ _ W a2)
  rw [hv]
  clear hv a1 a2 o1 o2 hP hm ht hk hN
  generalize kS al (kAft k st f true) = v1 at HF1 r1 ⊢
  generalize kS al (kAft k st f false) = v2 at HF2 r2 ⊢
  generalize kAft k st f true = k1 at HF1 HA1
  generalize kAft k st f false = k2 at HF2 HA2
  obtain ⟨xa1, xb1, xc1, xd1, xw1, xs1⟩ := k1
  obtain ⟨xa2, xb2, xc2, xd2, xw2, xs2⟩ := k2
  obtain ⟨xa, xb, xc, xd, xw, xs⟩ := k
  simp only at HF1 HF2 HA1 HA2 ⊢
  have HMX := Aside0.mk (fun (W : World) => spec_l1Most.calls0 v1 v2 (max v1 v2) W (spec_l1Most_is _ _))
  have hmx : 0 ≤ max v1 v2 ∧ max v1 v2 ≤ 1000 := by omega
  generalize max v1 v2 = mx at HMX hmx ⊢
  have HMN := Aside0.mk (fun (W : World) => spec_l1Least.calls0 1000 (1 + mx) (min 1000 (1 + mx)) W (spec_l1Least_is _ _))
  have hw1 : IntKind.i64.wrap (1 + mx) = 1 + mx := by rw [i64_w]; unfold wrap64; omega
  generalize min 1000 (1 + mx) = res at HMN ⊢
  have HT := Aside0.mk hT
  have HB := Aside0.mk hB
  have HR := Aside0.mk hR
  generalize (!al) = nb at HF1 HF2 ⊢
  clear hT hB hR r1 r2
  go_enter Try.func27, Try.ntmps27
  go_wp2_with (first
    | ((with_reducible refine gate_dst (N := 6) rfl ?_); refine box_event ?hg (N := 6) ?hd (cs := #[.int .i64 xa, .int .i64 xb, .int .i64 xc, .int .i64 xd, .int .i64 xw, .int .i64 xs]) (t := 31) ?hr ?_; (case hd => rfl); (case hg => rfl); (case hr => first | (go_simp; done) | (go_simp; rfl)); intro gb hg w2 hbox hb; have NE := Aside0.mk (show gb ≠ g by intro he; have h1_ := Kd.R_lt HR.out g (by simp [Value.ownBlock]); omega); have n0_ := Aside0.mk (below_step HB.out hb); have n1_ := Aside0.mk (Kd.R_below HR.out hb); have n2_ := Aside0.mk (Kept.of_below hb (fun k_ => k_ = g)); clear HB HR; have HB := n0_; have HR := n1_; have HKp := n2_; have KB := Aside0.mk hbox; clear n0_ n1_ n2_; have hb0 : w2.cell? ⟨gb, 0, none⟩ = some (.int .i64 xa) := (blk_cell KB.out 0).trans rfl; have hb1 : w2.cell? ⟨gb, 1, none⟩ = some (.int .i64 xb) := (blk_cell KB.out 1).trans rfl; have hb2 : w2.cell? ⟨gb, 2, none⟩ = some (.int .i64 xc) := (blk_cell KB.out 2).trans rfl; have hb3 : w2.cell? ⟨gb, 3, none⟩ = some (.int .i64 xd) := (blk_cell KB.out 3).trans rfl; have hb4 : w2.cell? ⟨gb, 4, none⟩ = some (.int .i64 xw) := (blk_cell KB.out 4).trans rfl; have hb5 : w2.cell? ⟨gb, 5, none⟩ = some (.int .i64 xs) := (blk_cell KB.out 5).trans rfl; clear hg hbox hb)
    | (go_at_call 34; with_reducible refine (HA1.out _).mono ?_; rintro e_ w3 ⟨rfl, hb⟩; have n0_ := Aside0.mk (below_step HB.out hb); have n1_ := Aside0.mk (Kd.R_below HR.out hb); have n2_ := Aside0.mk (HKp.out.below hb); have n3_ := Aside0.mk (blk_below KB.out hb); clear HB HR HKp KB; have HB := n0_; have HR := n1_; have HKp := n2_; have KB := n3_; clear n0_ n1_ n2_ n3_; clear hb0 hb1 hb2 hb3 hb4 hb5; have hb0 : w3.cell? ⟨gb, 0, none⟩ = some (.int .i64 xa) := (blk_cell KB.out 0).trans rfl; have hb1 : w3.cell? ⟨gb, 1, none⟩ = some (.int .i64 xb) := (blk_cell KB.out 1).trans rfl; have hb2 : w3.cell? ⟨gb, 2, none⟩ = some (.int .i64 xc) := (blk_cell KB.out 2).trans rfl; have hb3 : w3.cell? ⟨gb, 3, none⟩ = some (.int .i64 xd) := (blk_cell KB.out 3).trans rfl; have hb4 : w3.cell? ⟨gb, 4, none⟩ = some (.int .i64 xw) := (blk_cell KB.out 4).trans rfl; have hb5 : w3.cell? ⟨gb, 5, none⟩ = some (.int .i64 xs) := (blk_cell KB.out 5).trans rfl; clear hb)
    | (go_at_call 34; with_reducible refine (HA2.out _).mono ?_; rintro e_ w3 ⟨rfl, hb⟩; have n0_ := Aside0.mk (below_step HB.out hb); have n1_ := Aside0.mk (Kd.R_below HR.out hb); have n2_ := Aside0.mk (HKp.out.below hb); have n3_ := Aside0.mk (blk_below KB.out hb); clear HB HR HKp KB; have HB := n0_; have HR := n1_; have HKp := n2_; have KB := n3_; clear n0_ n1_ n2_ n3_; clear hb0 hb1 hb2 hb3 hb4 hb5; have hb0 : w3.cell? ⟨gb, 0, none⟩ = some (.int .i64 xa) := (blk_cell KB.out 0).trans rfl; have hb1 : w3.cell? ⟨gb, 1, none⟩ = some (.int .i64 xb) := (blk_cell KB.out 1).trans rfl; have hb2 : w3.cell? ⟨gb, 2, none⟩ = some (.int .i64 xc) := (blk_cell KB.out 2).trans rfl; have hb3 : w3.cell? ⟨gb, 3, none⟩ = some (.int .i64 xd) := (blk_cell KB.out 3).trans rfl; have hb4 : w3.cell? ⟨gb, 4, none⟩ = some (.int .i64 xw) := (blk_cell KB.out 4).trans rfl; have hb5 : w3.cell? ⟨gb, 5, none⟩ = some (.int .i64 xs) := (blk_cell KB.out 5).trans rfl; clear hb)
    | (go_at_call 13; with_reducible refine (HF1.out _ _ HT.out HB.out HR.out).mono ?_; rintro e_ w3 ⟨t', rfl, hT, hr, hb, hk⟩; have n2_ := Aside0.mk (HKp.out.then_ hk (fun k_ h_ => Or.inl h_)); have n3_ := Aside0.mk (blk_kept KB.out hk NE.out); clear HB HR HKp KB HT; have HB := Aside0.mk hb; have HR := Aside0.mk hr; have HT := Aside0.mk hT; have HKp := n2_; have KB := n3_; clear n2_ n3_; clear hb0 hb1 hb2 hb3 hb4 hb5; have hb0 : w3.cell? ⟨gb, 0, none⟩ = some (.int .i64 xa) := (blk_cell KB.out 0).trans rfl; have hb1 : w3.cell? ⟨gb, 1, none⟩ = some (.int .i64 xb) := (blk_cell KB.out 1).trans rfl; have hb2 : w3.cell? ⟨gb, 2, none⟩ = some (.int .i64 xc) := (blk_cell KB.out 2).trans rfl; have hb3 : w3.cell? ⟨gb, 3, none⟩ = some (.int .i64 xd) := (blk_cell KB.out 3).trans rfl; have hb4 : w3.cell? ⟨gb, 4, none⟩ = some (.int .i64 xw) := (blk_cell KB.out 4).trans rfl; have hb5 : w3.cell? ⟨gb, 5, none⟩ = some (.int .i64 xs) := (blk_cell KB.out 5).trans rfl; clear hb hr hT hk)
    | (go_at_call 13; with_reducible refine (HF2.out _ _ HT.out HB.out HR.out).mono ?_; rintro e_ w3 ⟨t', rfl, hT, hr, hb, hk⟩; have n2_ := Aside0.mk (HKp.out.then_ hk (fun k_ h_ => Or.inl h_)); have n3_ := Aside0.mk (blk_kept KB.out hk NE.out); clear HB HR HKp KB HT; have HB := Aside0.mk hb; have HR := Aside0.mk hr; have HT := Aside0.mk hT; have HKp := n2_; have KB := n3_; clear n2_ n3_; clear hb0 hb1 hb2 hb3 hb4 hb5; have hb0 : w3.cell? ⟨gb, 0, none⟩ = some (.int .i64 xa) := (blk_cell KB.out 0).trans rfl; have hb1 : w3.cell? ⟨gb, 1, none⟩ = some (.int .i64 xb) := (blk_cell KB.out 1).trans rfl; have hb2 : w3.cell? ⟨gb, 2, none⟩ = some (.int .i64 xc) := (blk_cell KB.out 2).trans rfl; have hb3 : w3.cell? ⟨gb, 3, none⟩ = some (.int .i64 xd) := (blk_cell KB.out 3).trans rfl; have hb4 : w3.cell? ⟨gb, 4, none⟩ = some (.int .i64 xw) := (blk_cell KB.out 4).trans rfl; have hb5 : w3.cell? ⟨gb, 5, none⟩ = some (.int .i64 xs) := (blk_cell KB.out 5).trans rfl; clear hb hr hT hk)
    | (go_at_call 35; with_reducible refine (HMX.out _).mono ?_; rintro e_ w_ ⟨rfl, rfl⟩)
    | (go_at_call 26; with_reducible refine (HMN.out _).mono ?_; rintro e_ w_ ⟨rfl, rfl⟩))
  go_ret
  exact ⟨_, rfl, HT.out, HR.out, HB.out, HKp.out⟩
theorem kRow_in (k : KSt) (st : Bool) : ∀ i : Nat, i < kNu k st → (st, kLo k st + 1 + (i : Int)) ∈ kTests k := by
  intro i hi
  rw [kTests_rows]
  cases st
  · exact List.mem_append_left _ ((kRow_mem _ _ _ _).2 ⟨rfl, by simp; omega, by simp; omega⟩)
  · exact List.mem_append_right _ ((kRow_mem _ _ _ _).2 ⟨rfl, by simp; omega, by simp; omega⟩)
theorem kLoNu (k : KSt) (hk : KOk k) (st : Bool) : 0 ≤ kLo k st ∧ kLo k st ≤ 6 ∧ kNu k st ≤ 6 := by
  obtain ⟨a, b, c, d, we, se⟩ := k
  obtain ⟨h1, h2, h3, h4, h5, h6, h7, h8, h9, h10⟩ := hk
  simp only at h1 h2 h3 h4 h5 h6 h7 h8 h9 h10
  cases st <;> simp only [kLo, kNu, kWn, kSn] <;> split <;> omega
/-- The tests of so many kinds. -/
def rowsTo (k : KSt) : Nat → List (Bool × Int)
  | 0 => []
  | 1 => kRow false (kLo k false) (kNu k false)
  | _ => kTests k
theorem rowsTo_step0 (al : Bool) (k : KSt) : kSFold al k (kRow false (kLo k false) (kNu k false)) (kSFold al k (rowsTo k 0) 1000) = kSFold al k (rowsTo k 1) 1000 := rfl
theorem rowsTo_step1 (al : Bool) (k : KSt) : kSFold al k (kRow true (kLo k true) (kNu k true)) (kSFold al k (rowsTo k 1) 1000) = kSFold al k (rowsTo k 2) 1000 := by
  show _ = kSFold al k (kTests k) 1000
  rw [kTests_rows, kSFold_append]; rfl
theorem kSW_range (al : Bool) (k : KSt) (t : Bool × Int) : 0 ≤ kSW al k t ∧ kSW al k t ≤ 1000 := by
  have := kW_range al k t
  rw [kSW_eq]; omega
set_option maxHeartbeats 8000000 in
set_option maxRecDepth 100000 in
theorem kiFew_step (al : Bool) (m : Nat) (hP : FewC al m) : FewC al (m + 1) := by
  intro N k g cap t w0 W hN hk hm hT hB hR
  have HNN := Aside0.mk hN
  have HT := Aside0.mk hT
  have HB := Aside0.mk hB
  have HR := Aside0.mk hR
  have HOK := Aside0.mk hk
  have HMU : Aside0 (kMu k ≤ m) := ⟨by omega⟩
  obtain ⟨p, hp⟩ : ∃ p, kPlace k = p := ⟨_, rfl⟩
  have HPP := Aside0.mk hp
  have hpl := kPlace_lt hk
  have hpi := kiPlace_is k hk
  rw [hp] at hpl hpi
  have HPL := Aside0.mk (fun (W : World) => spec_kiPlace.calls k.a k.b k.c k.d k.w k.s _ W hpi)
  have hz1 : (p : Int) < (N : Int) := by omega
  clear hp hpi hk hm hT hB hR hpl hN
  by_cases hab : k.a = k.b
  · by_cases hal : al = true
    · have hv : kS al k = 0 := by
        rw [kS_eq al k HOK.out, if_pos (by unfold kEnd; rw [decide_eq_true hab, hal]; rfl)]
      have HV := Aside0.mk hv
      have hq1 : (k.a == k.b) = true := by rw [beq_iff_eq]; exact hab
      have hq3 : (!al) = false := by rw [hal]; rfl
      clear hv hab hal
      go_enter Try.func13, Try.ntmps13
      go_wp2_with (((with_reducible refine gate_dst (N := 4) rfl ?_); refine box_event ?hg (N := 4) ?hd (cs := #[.int .i64 k.a, .int .i64 k.b, .int .i64 k.c, .int .i64 k.d, .int .i64 k.w, .int .i64 k.s]) (t := 31) ?hr ?_; (case hd => rfl); (case hg => rfl); (case hr => first | (go_simp; done) | (go_simp; rfl)); intro gb hg w2 hbox hb; have NE := Aside0.mk (show gb ≠ g by intro he; have h1_ := Kd.R_lt HR.out g (by simp [Value.ownBlock]); omega); have n0_ := Aside0.mk (below_step HB.out hb); have n1_ := Aside0.mk (Kd.R_below HR.out hb); have n2_ := Aside0.mk (Kept.of_below hb (fun k_ => k_ = g)); clear HB HR; have HB := n0_; have HR := n1_; have HKp := n2_; have KB := Aside0.mk hbox; clear n0_ n1_ n2_; have hb0 : w2.cell? ⟨gb, 0, none⟩ = some (.int .i64 k.a) := (blk_cell KB.out 0).trans rfl; have hb1 : w2.cell? ⟨gb, 1, none⟩ = some (.int .i64 k.b) := (blk_cell KB.out 1).trans rfl; have hb2 : w2.cell? ⟨gb, 2, none⟩ = some (.int .i64 k.c) := (blk_cell KB.out 2).trans rfl; have hb3 : w2.cell? ⟨gb, 3, none⟩ = some (.int .i64 k.d) := (blk_cell KB.out 3).trans rfl; have hb4 : w2.cell? ⟨gb, 4, none⟩ = some (.int .i64 k.w) := (blk_cell KB.out 4).trans rfl; have hb5 : w2.cell? ⟨gb, 5, none⟩ = some (.int .i64 k.s) := (blk_cell KB.out 5).trans rfl; clear hg hbox hb))
      go_ret
      exact ⟨_, (by rw [HV.out]; rfl), HT.out, HR.out, HB.out, HKp.out⟩
    · have hq3 : (!al) = true := by simpa using hal
      by_cases hcd : k.c = k.d
      · have hv : kS al k = 0 := by
          rw [kS_eq al k HOK.out, if_pos (by unfold kEnd; rw [decide_eq_true hab, decide_eq_true hcd]; cases al <;> rfl)]
        have HV := Aside0.mk hv
        have hq1 : (k.a == k.b) = true := by rw [beq_iff_eq]; exact hab
        have hq2 : (k.c == k.d) = true := by rw [beq_iff_eq]; exact hcd
        clear hv hab hcd hal
        go_enter Try.func13, Try.ntmps13
        go_wp2_with (((with_reducible refine gate_dst (N := 4) rfl ?_); refine box_event ?hg (N := 4) ?hd (cs := #[.int .i64 k.a, .int .i64 k.b, .int .i64 k.c, .int .i64 k.d, .int .i64 k.w, .int .i64 k.s]) (t := 31) ?hr ?_; (case hd => rfl); (case hg => rfl); (case hr => first | (go_simp; done) | (go_simp; rfl)); intro gb hg w2 hbox hb; have NE := Aside0.mk (show gb ≠ g by intro he; have h1_ := Kd.R_lt HR.out g (by simp [Value.ownBlock]); omega); have n0_ := Aside0.mk (below_step HB.out hb); have n1_ := Aside0.mk (Kd.R_below HR.out hb); have n2_ := Aside0.mk (Kept.of_below hb (fun k_ => k_ = g)); clear HB HR; have HB := n0_; have HR := n1_; have HKp := n2_; have KB := Aside0.mk hbox; clear n0_ n1_ n2_; have hb0 : w2.cell? ⟨gb, 0, none⟩ = some (.int .i64 k.a) := (blk_cell KB.out 0).trans rfl; have hb1 : w2.cell? ⟨gb, 1, none⟩ = some (.int .i64 k.b) := (blk_cell KB.out 1).trans rfl; have hb2 : w2.cell? ⟨gb, 2, none⟩ = some (.int .i64 k.c) := (blk_cell KB.out 2).trans rfl; have hb3 : w2.cell? ⟨gb, 3, none⟩ = some (.int .i64 k.d) := (blk_cell KB.out 3).trans rfl; have hb4 : w2.cell? ⟨gb, 4, none⟩ = some (.int .i64 k.w) := (blk_cell KB.out 4).trans rfl; have hb5 : w2.cell? ⟨gb, 5, none⟩ = some (.int .i64 k.s) := (blk_cell KB.out 5).trans rfl; clear hg hbox hb))
        go_ret
        exact ⟨_, (by rw [HV.out]; rfl), HT.out, HR.out, HB.out, HKp.out⟩
      · have hend : kEnd al k = false := by unfold kEnd; rw [decide_eq_true hab, decide_eq_false hcd, (by simpa using hal : al = false)]; rfl
        have hq1 : (k.a == k.b) = true := by rw [beq_iff_eq]; exact hab
        have hq2 : (k.c == k.d) = false := by rw [beq_eq_false_iff_ne]; exact hcd
        clear hab hcd hal
        have HSE : Aside0 (kS al k = kSFold al k (kTests k) 1000) := ⟨by rw [kS_eq al k HOK.out, if_neg (by rw [hend]; decide)]⟩
        clear hend
        obtain ⟨x, hxd⟩ : ∃ x, x = t.getD p 0 := ⟨_, rfl⟩
        have HKT : Aside0 (x = -1 ∨ x = kS al k) := ⟨by
          have h1 := HT.out.2 k HOK.out
          rw [HPP.out, ← hxd] at h1
          exact h1⟩
        have HCELL : Aside0 (∀ Wq, Kd.R (Kd.int .i64) 3 Wq w0.heap.size (fun k_ => k_ = g) (.slice (some ⟨g, 0, none⟩) N cap) t → Wq.cell? ⟨g, p, none⟩ = some (.int .i64 x) ∧ Wq.frozen? ⟨g, p, none⟩ = false) := ⟨fun Wq h => by
          have h1 := Kd.R_celln 0 h (p : Int) (by omega) (by omega)
          rw [Int.toNat_natCast] at h1
          rw [hxd]
          simpa [rdOf] using h1⟩
        clear hxd
        go_enter Try.func13, Try.ntmps13
        by_cases hx1 : x = -1
        · have hd1 : decide (0 ≤ x) = false := decide_eq_false (by omega)
          have hd2 : (x ≥ 0) = False := by simp; omega
          clear HKT
          go_wp2_with (first
            | ((with_reducible refine gate_dst (N := 4) rfl ?_); refine box_event ?hg (N := 4) ?hd (cs := #[.int .i64 k.a, .int .i64 k.b, .int .i64 k.c, .int .i64 k.d, .int .i64 k.w, .int .i64 k.s]) (t := 31) ?hr ?_; (case hd => rfl); (case hg => rfl); (case hr => first | (go_simp; done) | (go_simp; rfl)); intro gb hg w2 hbox hb; have NE := Aside0.mk (show gb ≠ g by intro he; have h1_ := Kd.R_lt HR.out g (by simp [Value.ownBlock]); omega); have n0_ := Aside0.mk (below_step HB.out hb); have n1_ := Aside0.mk (Kd.R_below HR.out hb); have n2_ := Aside0.mk (Kept.of_below hb (fun k_ => k_ = g)); clear HB HR; have HB := n0_; have HR := n1_; have HKp := n2_; have KB := Aside0.mk hbox; clear n0_ n1_ n2_; have hb0 : w2.cell? ⟨gb, 0, none⟩ = some (.int .i64 k.a) := (blk_cell KB.out 0).trans rfl; have hb1 : w2.cell? ⟨gb, 1, none⟩ = some (.int .i64 k.b) := (blk_cell KB.out 1).trans rfl; have hb2 : w2.cell? ⟨gb, 2, none⟩ = some (.int .i64 k.c) := (blk_cell KB.out 2).trans rfl; have hb3 : w2.cell? ⟨gb, 3, none⟩ = some (.int .i64 k.d) := (blk_cell KB.out 3).trans rfl; have hb4 : w2.cell? ⟨gb, 4, none⟩ = some (.int .i64 k.w) := (blk_cell KB.out 4).trans rfl; have hb5 : w2.cell? ⟨gb, 5, none⟩ = some (.int .i64 k.s) := (blk_cell KB.out 5).trans rfl; clear hg hbox hb)
            | (go_at_call 24; with_reducible refine (HPL.out _).mono ?_; rintro e_ w3 ⟨rfl, hb⟩; have n0_ := Aside0.mk (below_step HB.out hb); have n1_ := Aside0.mk (Kd.R_below HR.out hb); have n2_ := Aside0.mk (HKp.out.below hb); have n3_ := Aside0.mk (blk_below KB.out hb); clear HB HR HKp KB; have HB := n0_; have HR := n1_; have HKp := n2_; have KB := n3_; clear n0_ n1_ n2_ n3_; clear hb0 hb1 hb2 hb3 hb4 hb5; have hb0 : w3.cell? ⟨gb, 0, none⟩ = some (.int .i64 k.a) := (blk_cell KB.out 0).trans rfl; have hb1 : w3.cell? ⟨gb, 1, none⟩ = some (.int .i64 k.b) := (blk_cell KB.out 1).trans rfl; have hb2 : w3.cell? ⟨gb, 2, none⟩ = some (.int .i64 k.c) := (blk_cell KB.out 2).trans rfl; have hb3 : w3.cell? ⟨gb, 3, none⟩ = some (.int .i64 k.d) := (blk_cell KB.out 3).trans rfl; have hb4 : w3.cell? ⟨gb, 4, none⟩ = some (.int .i64 k.w) := (blk_cell KB.out 4).trans rfl; have hb5 : w3.cell? ⟨gb, 5, none⟩ = some (.int .i64 k.s) := (blk_cell KB.out 5).trans rfl; clear hb; obtain ⟨hx, hf⟩ := HCELL.out _ HR.out; clear hf))
          clear hx hb0 hb1 hb2 hb3 hb4 hb5 hd1 hd2 hx1 HPL
          go_loopg [8, 9] 2 (fun gg v8 v9 wr => ∃ (q : Nat) (o : Int) (tb : List Int), v9 = .int .i64 q ∧ v8 = .int .i64 o ∧ q ≤ 2 ∧ 2 - q ≤ gg ∧ 0 ≤ o ∧ o ≤ 1000 ∧ Aside0 (o = kSFold al k (rowsTo k q) 1000) ∧ Aside0 (KTab al tb) ∧ Aside0 (Kd.R (Kd.int .i64) 3 wr w0.heap.size (fun k_ => k_ = g) (.slice (some ⟨g, 0, none⟩) N cap) tb) ∧ Aside0 (Below w0.heap.size w0 wr) ∧ Aside0 (Kept W wr (fun k_ => k_ = g)) ∧ Aside0 (wr.heap[gb]? = some (.cells #[.int .i64 k.a, .int .i64 k.b, .int .i64 k.c, .int .i64 k.d, .int .i64 k.w, .int .i64 k.s] 31 (0, 0))))
          case atStart => exact ⟨0, 1000, t, rfl, rfl, Nat.zero_le _, Nat.le_refl _, by omega, by omega, ⟨rfl⟩, HT, HR, HB, HKp, KB⟩
          case round =>
            clear HT HR HB HKp KB HCELL
            obtain ⟨q, o, tb, rfl, rfl, hq, hgg, ho0, ho1, HO, HT, HR, HB, HKp, KB⟩ := hrel
            have hb0 : wr.cell? ⟨gb, 0, none⟩ = some (.int .i64 k.a) := (blk_cell KB.out 0).trans rfl
            have hb1 : wr.cell? ⟨gb, 1, none⟩ = some (.int .i64 k.b) := (blk_cell KB.out 1).trans rfl
            have hb2 : wr.cell? ⟨gb, 2, none⟩ = some (.int .i64 k.c) := (blk_cell KB.out 2).trans rfl
            have hb3 : wr.cell? ⟨gb, 3, none⟩ = some (.int .i64 k.d) := (blk_cell KB.out 3).trans rfl
            have hb4 : wr.cell? ⟨gb, 4, none⟩ = some (.int .i64 k.w) := (blk_cell KB.out 4).trans rfl
            have hb5 : wr.cell? ⟨gb, 5, none⟩ = some (.int .i64 k.s) := (blk_cell KB.out 5).trans rfl
            rcases (by omega : q = 0 ∨ q = 1 ∨ q = 2) with rfl | rfl | rfl
            · obtain ⟨lo, hlo⟩ : ∃ lo, lo = kLo k false := ⟨_, rfl⟩
              obtain ⟨n, hnu⟩ : ∃ n, n = kNu k false := ⟨_, rfl⟩
              have hr := kLoNu k HOK.out false
              have hmay := kiMay_is k HOK.out false
              have HMEM := Aside0.mk (kRow_in k false)
              have hsum := rowsTo_step0 al k
              rw [← hlo, ← hnu] at hmay hr HMEM hsum
              rw [← HO.out] at hsum
              have HMAY := Aside0.mk (fun (W : World) => spec_kiMay.calls 1 k.a k.b k.c k.d k.w k.s false _ _ W hmay)
              have HSUM := Aside0.mk hsum
              obtain ⟨hr1, hr2, hr3⟩ := hr
              clear hlo hnu hmay HO hsum
              go_wp2_with (go_at_call 25; with_reducible refine (HMAY.out _).mono ?_; rintro e_ w3 ⟨rfl, hb⟩; have n0_ := Aside0.mk (below_step HB.out hb); have n1_ := Aside0.mk (Kd.R_below HR.out hb); have n2_ := Aside0.mk (HKp.out.below hb); have n3_ := Aside0.mk (blk_below KB.out hb); clear HB HR HKp KB; have HB := n0_; have HR := n1_; have HKp := n2_; have KB := n3_; clear n0_ n1_ n2_ n3_; clear hb0 hb1 hb2 hb3 hb4 hb5; have hb0 : w3.cell? ⟨gb, 0, none⟩ = some (.int .i64 k.a) := (blk_cell KB.out 0).trans rfl; have hb1 : w3.cell? ⟨gb, 1, none⟩ = some (.int .i64 k.b) := (blk_cell KB.out 1).trans rfl; have hb2 : w3.cell? ⟨gb, 2, none⟩ = some (.int .i64 k.c) := (blk_cell KB.out 2).trans rfl; have hb3 : w3.cell? ⟨gb, 3, none⟩ = some (.int .i64 k.d) := (blk_cell KB.out 3).trans rfl; have hb4 : w3.cell? ⟨gb, 4, none⟩ = some (.int .i64 k.w) := (blk_cell KB.out 4).trans rfl; have hb5 : w3.cell? ⟨gb, 5, none⟩ = some (.int .i64 k.s) := (blk_cell KB.out 5).trans rfl; clear hb)
              clear HMAY hb0 hb1 hb2 hb3 hb4 hb5
              go_loopg [8, 12] n (fun gg v8 v12 wr => ∃ (i : Nat) (o2 : Int) (tb : List Int), v12 = .int .i64 (lo + 1 + (i : Int)) ∧ v8 = .int .i64 o2 ∧ i ≤ n ∧ n - i ≤ gg ∧ 0 ≤ o2 ∧ o2 ≤ 1000 ∧ Aside0 (o2 = kSFold al k (kRow false lo i) o) ∧ Aside0 (KTab al tb) ∧ Aside0 (Kd.R (Kd.int .i64) 3 wr w0.heap.size (fun k_ => k_ = g) (.slice (some ⟨g, 0, none⟩) N cap) tb) ∧ Aside0 (Below w0.heap.size w0 wr) ∧ Aside0 (Kept W wr (fun k_ => k_ = g)) ∧ Aside0 (wr.heap[gb]? = some (.cells #[.int .i64 k.a, .int .i64 k.b, .int .i64 k.c, .int .i64 k.d, .int .i64 k.w, .int .i64 k.s] 31 (0, 0))))
              case atStart => exact ⟨0, o, tb, by simp, rfl, Nat.zero_le _, Nat.le_refl _, ho0, ho1, ⟨rfl⟩, HT, HR, HB, HKp, KB⟩
              case round =>
                clear HT HR HB HKp KB
                obtain ⟨i, o2, tb, rfl, rfl, hi, hgg2, hp0, hp1, HO2, HT, HR, HB, HKp, KB⟩ := hrel
                by_cases hlt : i < n
                · have hz1 : lo + 1 + (i : Int) ≤ lo + (n : Int) := by omega
                  have hx := kSW_range al k (false, lo + 1 + (i : Int))
                  have HN : Aside0 (min o2 (kSW al k (false, lo + 1 + (i : Int))) = kSFold al k (kRow false lo (i + 1)) o) := ⟨by
                    rw [kRow_succ, kSFold_append, ← HO2.out]; rfl⟩
                  have HWI : Aside0 (∀ (tb : List Int) (W : World), KTab al tb → Below w0.heap.size w0 W → Kd.R (Kd.int .i64) 3 W w0.heap.size (fun k_ => k_ = g) (.slice (some ⟨g, 0, none⟩) N cap) tb → Calls Try.prog 27 #[.slice (some ⟨g, 0, none⟩) N cap, .agg #[.int .i64 k.a, .int .i64 k.b, .int .i64 k.c, .int .i64 k.d, .int .i64 k.w, .int .i64 k.s], .bool false, .int .i64 (lo + 1 + (i : Int)), .bool (!al)] W fun e' w' => ∃ t', e' = .returned (.int .i64 (kSW al k (false, lo + 1 + (i : Int)))) ∧ KTab al t' ∧ Kd.R (Kd.int .i64) 3 w' w0.heap.size (fun k_ => k_ = g) (.slice (some ⟨g, 0, none⟩) N cap) t' ∧ Below w0.heap.size w0 w' ∧ Kept W w' (fun k_ => k_ = g)) :=
                    ⟨fun tb W h1 h2 h3 => kiWith_of al m hP N HNN.out k HOK.out HMU.out false (lo + 1 + (i : Int)) (HMEM.out i hlt) g cap tb w0 W h1 h2 h3⟩
                  generalize kSW al k (false, lo + 1 + (i : Int)) = x at hx HN HWI
                  try simp only [hq3] at HWI
                  have HMN := Aside0.mk (fun (W : World) => spec_l1Least.calls0 o2 x (min o2 x) W (spec_l1Least_is _ _))
                  have hm2 : 0 ≤ min o2 x ∧ min o2 x ≤ 1000 := by omega
                  generalize min o2 x = o3 at HN HMN hm2
                  have hw1 : IntKind.i64.wrap (lo + 1 + (i : Int) + 1) = lo + 1 + (i : Int) + 1 := by rw [i64_w]; unfold wrap64; omega
                  clear HO2
                  have hb0 : wr.cell? ⟨gb, 0, none⟩ = some (.int .i64 k.a) := (blk_cell KB.out 0).trans rfl
                  have hb1 : wr.cell? ⟨gb, 1, none⟩ = some (.int .i64 k.b) := (blk_cell KB.out 1).trans rfl
                  have hb2 : wr.cell? ⟨gb, 2, none⟩ = some (.int .i64 k.c) := (blk_cell KB.out 2).trans rfl
                  have hb3 : wr.cell? ⟨gb, 3, none⟩ = some (.int .i64 k.d) := (blk_cell KB.out 3).trans rfl
                  have hb4 : wr.cell? ⟨gb, 4, none⟩ = some (.int .i64 k.w) := (blk_cell KB.out 4).trans rfl
                  have hb5 : wr.cell? ⟨gb, 5, none⟩ = some (.int .i64 k.s) := (blk_cell KB.out 5).trans rfl
                  go_wp2_with (first
                    | (go_at_call 27; with_reducible refine (HWI.out _ _ HT.out HB.out HR.out).mono ?_; rintro e_ w3 ⟨t', rfl, hT, hr, hb, hk⟩; have n2_ := Aside0.mk (HKp.out.then_ hk (fun k_ h_ => Or.inl h_)); have n3_ := Aside0.mk (blk_kept KB.out hk NE.out); clear HB HR HKp KB HT; have HB := Aside0.mk hb; have HR := Aside0.mk hr; have HT := Aside0.mk hT; have HKp := n2_; have KB := n3_; clear n2_ n3_; clear hb0 hb1 hb2 hb3 hb4 hb5; have hb0 : w3.cell? ⟨gb, 0, none⟩ = some (.int .i64 k.a) := (blk_cell KB.out 0).trans rfl; have hb1 : w3.cell? ⟨gb, 1, none⟩ = some (.int .i64 k.b) := (blk_cell KB.out 1).trans rfl; have hb2 : w3.cell? ⟨gb, 2, none⟩ = some (.int .i64 k.c) := (blk_cell KB.out 2).trans rfl; have hb3 : w3.cell? ⟨gb, 3, none⟩ = some (.int .i64 k.d) := (blk_cell KB.out 3).trans rfl; have hb4 : w3.cell? ⟨gb, 4, none⟩ = some (.int .i64 k.w) := (blk_cell KB.out 4).trans rfl; have hb5 : w3.cell? ⟨gb, 5, none⟩ = some (.int .i64 k.s) := (blk_cell KB.out 5).trans rfl; clear hb hr hT hk)
                    | (go_at_call 26; with_reducible refine (HMN.out _).mono ?_; rintro e_ w_ ⟨rfl, rfl⟩))
                  go_roundg (n - (i + 1))
                  case measure => omega
                  case rel => exact ⟨i + 1, o3, _, by rw [show lo + 1 + ((i + 1 : Nat) : Int) = lo + 1 + (i : Int) + 1 by clear hw1; omega], rfl, by clear hw1; omega, by clear hw1; omega, hm2.1, hm2.2, HN, HT, HR, HB, HKp, KB⟩
                · have hz1 : ¬ lo + 1 + (i : Int) ≤ lo + (n : Int) := by omega
                  obtain rfl : i = n := by omega
                  have HN : Aside0 (o2 = kSFold al k (rowsTo k 1) 1000) := ⟨by rw [HO2.out, HSUM.out]⟩
                  clear HO2 HSUM HMEM
                  go_wp2
                  go_roundg (2 - 1)
                  case measure => omega
                  case rel => exact ⟨1, o2, tb, by go_num, rfl, by omega, by omega, hp0, hp1, HN, HT, HR, HB, HKp, KB⟩

            · obtain ⟨lo, hlo⟩ : ∃ lo, lo = kLo k true := ⟨_, rfl⟩
              obtain ⟨n, hnu⟩ : ∃ n, n = kNu k true := ⟨_, rfl⟩
              have hr := kLoNu k HOK.out true
              have hmay := kiMay_is k HOK.out true
              have HMEM := Aside0.mk (kRow_in k true)
              have hsum := rowsTo_step1 al k
              rw [← hlo, ← hnu] at hmay hr HMEM hsum
              rw [← HO.out] at hsum
              have HMAY := Aside0.mk (fun (W : World) => spec_kiMay.calls 1 k.a k.b k.c k.d k.w k.s true _ _ W hmay)
              have HSUM := Aside0.mk hsum
              obtain ⟨hr1, hr2, hr3⟩ := hr
              clear hlo hnu hmay HO hsum
              go_wp2_with (go_at_call 25; with_reducible refine (HMAY.out _).mono ?_; rintro e_ w3 ⟨rfl, hb⟩; have n0_ := Aside0.mk (below_step HB.out hb); have n1_ := Aside0.mk (Kd.R_below HR.out hb); have n2_ := Aside0.mk (HKp.out.below hb); have n3_ := Aside0.mk (blk_below KB.out hb); clear HB HR HKp KB; have HB := n0_; have HR := n1_; have HKp := n2_; have KB := n3_; clear n0_ n1_ n2_ n3_; clear hb0 hb1 hb2 hb3 hb4 hb5; have hb0 : w3.cell? ⟨gb, 0, none⟩ = some (.int .i64 k.a) := (blk_cell KB.out 0).trans rfl; have hb1 : w3.cell? ⟨gb, 1, none⟩ = some (.int .i64 k.b) := (blk_cell KB.out 1).trans rfl; have hb2 : w3.cell? ⟨gb, 2, none⟩ = some (.int .i64 k.c) := (blk_cell KB.out 2).trans rfl; have hb3 : w3.cell? ⟨gb, 3, none⟩ = some (.int .i64 k.d) := (blk_cell KB.out 3).trans rfl; have hb4 : w3.cell? ⟨gb, 4, none⟩ = some (.int .i64 k.w) := (blk_cell KB.out 4).trans rfl; have hb5 : w3.cell? ⟨gb, 5, none⟩ = some (.int .i64 k.s) := (blk_cell KB.out 5).trans rfl; clear hb)
              clear HMAY hb0 hb1 hb2 hb3 hb4 hb5
              go_loopg [8, 12] n (fun gg v8 v12 wr => ∃ (i : Nat) (o2 : Int) (tb : List Int), v12 = .int .i64 (lo + 1 + (i : Int)) ∧ v8 = .int .i64 o2 ∧ i ≤ n ∧ n - i ≤ gg ∧ 0 ≤ o2 ∧ o2 ≤ 1000 ∧ Aside0 (o2 = kSFold al k (kRow true lo i) o) ∧ Aside0 (KTab al tb) ∧ Aside0 (Kd.R (Kd.int .i64) 3 wr w0.heap.size (fun k_ => k_ = g) (.slice (some ⟨g, 0, none⟩) N cap) tb) ∧ Aside0 (Below w0.heap.size w0 wr) ∧ Aside0 (Kept W wr (fun k_ => k_ = g)) ∧ Aside0 (wr.heap[gb]? = some (.cells #[.int .i64 k.a, .int .i64 k.b, .int .i64 k.c, .int .i64 k.d, .int .i64 k.w, .int .i64 k.s] 31 (0, 0))))
              case atStart => exact ⟨0, o, tb, by simp, rfl, Nat.zero_le _, Nat.le_refl _, ho0, ho1, ⟨rfl⟩, HT, HR, HB, HKp, KB⟩
              case round =>
                clear HT HR HB HKp KB
                obtain ⟨i, o2, tb, rfl, rfl, hi, hgg2, hp0, hp1, HO2, HT, HR, HB, HKp, KB⟩ := hrel
                by_cases hlt : i < n
                · have hz1 : lo + 1 + (i : Int) ≤ lo + (n : Int) := by omega
                  have hx := kSW_range al k (true, lo + 1 + (i : Int))
                  have HN : Aside0 (min o2 (kSW al k (true, lo + 1 + (i : Int))) = kSFold al k (kRow true lo (i + 1)) o) := ⟨by
                    rw [kRow_succ, kSFold_append, ← HO2.out]; rfl⟩
                  have HWI : Aside0 (∀ (tb : List Int) (W : World), KTab al tb → Below w0.heap.size w0 W → Kd.R (Kd.int .i64) 3 W w0.heap.size (fun k_ => k_ = g) (.slice (some ⟨g, 0, none⟩) N cap) tb → Calls Try.prog 27 #[.slice (some ⟨g, 0, none⟩) N cap, .agg #[.int .i64 k.a, .int .i64 k.b, .int .i64 k.c, .int .i64 k.d, .int .i64 k.w, .int .i64 k.s], .bool true, .int .i64 (lo + 1 + (i : Int)), .bool (!al)] W fun e' w' => ∃ t', e' = .returned (.int .i64 (kSW al k (true, lo + 1 + (i : Int)))) ∧ KTab al t' ∧ Kd.R (Kd.int .i64) 3 w' w0.heap.size (fun k_ => k_ = g) (.slice (some ⟨g, 0, none⟩) N cap) t' ∧ Below w0.heap.size w0 w' ∧ Kept W w' (fun k_ => k_ = g)) :=
                    ⟨fun tb W h1 h2 h3 => kiWith_of al m hP N HNN.out k HOK.out HMU.out true (lo + 1 + (i : Int)) (HMEM.out i hlt) g cap tb w0 W h1 h2 h3⟩
                  generalize kSW al k (true, lo + 1 + (i : Int)) = x at hx HN HWI
                  try simp only [hq3] at HWI
                  have HMN := Aside0.mk (fun (W : World) => spec_l1Least.calls0 o2 x (min o2 x) W (spec_l1Least_is _ _))
                  have hm2 : 0 ≤ min o2 x ∧ min o2 x ≤ 1000 := by omega
                  generalize min o2 x = o3 at HN HMN hm2
                  have hw1 : IntKind.i64.wrap (lo + 1 + (i : Int) + 1) = lo + 1 + (i : Int) + 1 := by rw [i64_w]; unfold wrap64; omega
                  clear HO2
                  have hb0 : wr.cell? ⟨gb, 0, none⟩ = some (.int .i64 k.a) := (blk_cell KB.out 0).trans rfl
                  have hb1 : wr.cell? ⟨gb, 1, none⟩ = some (.int .i64 k.b) := (blk_cell KB.out 1).trans rfl
                  have hb2 : wr.cell? ⟨gb, 2, none⟩ = some (.int .i64 k.c) := (blk_cell KB.out 2).trans rfl
                  have hb3 : wr.cell? ⟨gb, 3, none⟩ = some (.int .i64 k.d) := (blk_cell KB.out 3).trans rfl
                  have hb4 : wr.cell? ⟨gb, 4, none⟩ = some (.int .i64 k.w) := (blk_cell KB.out 4).trans rfl
                  have hb5 : wr.cell? ⟨gb, 5, none⟩ = some (.int .i64 k.s) := (blk_cell KB.out 5).trans rfl
                  go_wp2_with (first
                    | (go_at_call 27; with_reducible refine (HWI.out _ _ HT.out HB.out HR.out).mono ?_; rintro e_ w3 ⟨t', rfl, hT, hr, hb, hk⟩; have n2_ := Aside0.mk (HKp.out.then_ hk (fun k_ h_ => Or.inl h_)); have n3_ := Aside0.mk (blk_kept KB.out hk NE.out); clear HB HR HKp KB HT; have HB := Aside0.mk hb; have HR := Aside0.mk hr; have HT := Aside0.mk hT; have HKp := n2_; have KB := n3_; clear n2_ n3_; clear hb0 hb1 hb2 hb3 hb4 hb5; have hb0 : w3.cell? ⟨gb, 0, none⟩ = some (.int .i64 k.a) := (blk_cell KB.out 0).trans rfl; have hb1 : w3.cell? ⟨gb, 1, none⟩ = some (.int .i64 k.b) := (blk_cell KB.out 1).trans rfl; have hb2 : w3.cell? ⟨gb, 2, none⟩ = some (.int .i64 k.c) := (blk_cell KB.out 2).trans rfl; have hb3 : w3.cell? ⟨gb, 3, none⟩ = some (.int .i64 k.d) := (blk_cell KB.out 3).trans rfl; have hb4 : w3.cell? ⟨gb, 4, none⟩ = some (.int .i64 k.w) := (blk_cell KB.out 4).trans rfl; have hb5 : w3.cell? ⟨gb, 5, none⟩ = some (.int .i64 k.s) := (blk_cell KB.out 5).trans rfl; clear hb hr hT hk)
                    | (go_at_call 26; with_reducible refine (HMN.out _).mono ?_; rintro e_ w_ ⟨rfl, rfl⟩))
                  go_roundg (n - (i + 1))
                  case measure => omega
                  case rel => exact ⟨i + 1, o3, _, by rw [show lo + 1 + ((i + 1 : Nat) : Int) = lo + 1 + (i : Int) + 1 by clear hw1; omega], rfl, by clear hw1; omega, by clear hw1; omega, hm2.1, hm2.2, HN, HT, HR, HB, HKp, KB⟩
                · have hz1 : ¬ lo + 1 + (i : Int) ≤ lo + (n : Int) := by omega
                  obtain rfl : i = n := by omega
                  have HN : Aside0 (o2 = kSFold al k (rowsTo k 2) 1000) := ⟨by rw [HO2.out, HSUM.out]⟩
                  clear HO2 HSUM HMEM
                  go_wp2
                  go_roundg (2 - 2)
                  case measure => omega
                  case rel => exact ⟨2, o2, tb, by go_num, rfl, by omega, by omega, hp0, hp1, HN, HT, HR, HB, HKp, KB⟩

            · have hres : o = kS al k := by rw [HO.out, HSE.out]; rfl
              obtain ⟨hx, hf⟩ := Kd.R_celln 0 HR.out (p : Int) (by omega) (by omega)
              have HG := Aside0.mk (Kd.R_base HR.out g (by simp [Value.ownBlock]))
              have hput := Kd.R_putn HR.out (p : Int) o
              have hkt := KTab.put HT.out HOK.out
              rw [Int.toNat_natCast] at hx hf hput
              rw [← hres, HPP.out] at hkt
              have HPUT := Aside0.mk hput
              have HKT2 := Aside0.mk hkt
              have HRES := Aside0.mk hres
              clear hput hkt hres HO
              go_wp2
              go_ret
              exact ⟨_, (by rw [HRES.out]; rfl), HKT2.out, HPUT.out, below_set HB.out HG.out, HKp.out.setCell (Or.inl rfl) _⟩
        · have hxs : x = kS al k := HKT.out.resolve_left hx1
          have hxr := kS_range al k
          have hd1 : decide (0 ≤ x) = true := decide_eq_true (by omega)
          have hd2 : (x ≥ 0) = True := by simp; omega
          have HRES := Aside0.mk hxs
          clear HKT hxs hxr hx1
          go_wp2_with (first
            | ((with_reducible refine gate_dst (N := 4) rfl ?_); refine box_event ?hg (N := 4) ?hd (cs := #[.int .i64 k.a, .int .i64 k.b, .int .i64 k.c, .int .i64 k.d, .int .i64 k.w, .int .i64 k.s]) (t := 31) ?hr ?_; (case hd => rfl); (case hg => rfl); (case hr => first | (go_simp; done) | (go_simp; rfl)); intro gb hg w2 hbox hb; have NE := Aside0.mk (show gb ≠ g by intro he; have h1_ := Kd.R_lt HR.out g (by simp [Value.ownBlock]); omega); have n0_ := Aside0.mk (below_step HB.out hb); have n1_ := Aside0.mk (Kd.R_below HR.out hb); have n2_ := Aside0.mk (Kept.of_below hb (fun k_ => k_ = g)); clear HB HR; have HB := n0_; have HR := n1_; have HKp := n2_; have KB := Aside0.mk hbox; clear n0_ n1_ n2_; have hb0 : w2.cell? ⟨gb, 0, none⟩ = some (.int .i64 k.a) := (blk_cell KB.out 0).trans rfl; have hb1 : w2.cell? ⟨gb, 1, none⟩ = some (.int .i64 k.b) := (blk_cell KB.out 1).trans rfl; have hb2 : w2.cell? ⟨gb, 2, none⟩ = some (.int .i64 k.c) := (blk_cell KB.out 2).trans rfl; have hb3 : w2.cell? ⟨gb, 3, none⟩ = some (.int .i64 k.d) := (blk_cell KB.out 3).trans rfl; have hb4 : w2.cell? ⟨gb, 4, none⟩ = some (.int .i64 k.w) := (blk_cell KB.out 4).trans rfl; have hb5 : w2.cell? ⟨gb, 5, none⟩ = some (.int .i64 k.s) := (blk_cell KB.out 5).trans rfl; clear hg hbox hb)
            | (go_at_call 24; with_reducible refine (HPL.out _).mono ?_; rintro e_ w3 ⟨rfl, hb⟩; have n0_ := Aside0.mk (below_step HB.out hb); have n1_ := Aside0.mk (Kd.R_below HR.out hb); have n2_ := Aside0.mk (HKp.out.below hb); have n3_ := Aside0.mk (blk_below KB.out hb); clear HB HR HKp KB; have HB := n0_; have HR := n1_; have HKp := n2_; have KB := n3_; clear n0_ n1_ n2_ n3_; clear hb0 hb1 hb2 hb3 hb4 hb5; have hb0 : w3.cell? ⟨gb, 0, none⟩ = some (.int .i64 k.a) := (blk_cell KB.out 0).trans rfl; have hb1 : w3.cell? ⟨gb, 1, none⟩ = some (.int .i64 k.b) := (blk_cell KB.out 1).trans rfl; have hb2 : w3.cell? ⟨gb, 2, none⟩ = some (.int .i64 k.c) := (blk_cell KB.out 2).trans rfl; have hb3 : w3.cell? ⟨gb, 3, none⟩ = some (.int .i64 k.d) := (blk_cell KB.out 3).trans rfl; have hb4 : w3.cell? ⟨gb, 4, none⟩ = some (.int .i64 k.w) := (blk_cell KB.out 4).trans rfl; have hb5 : w3.cell? ⟨gb, 5, none⟩ = some (.int .i64 k.s) := (blk_cell KB.out 5).trans rfl; clear hb; obtain ⟨hx, hf⟩ := HCELL.out _ HR.out; clear hf))
          go_ret
          exact ⟨_, (by rw [HRES.out]; rfl), HT.out, HR.out, HB.out, HKp.out⟩
  · have hend : kEnd al k = false := by unfold kEnd; rw [decide_eq_false hab]; rfl
    have hq1 : (k.a == k.b) = false := by rw [beq_eq_false_iff_ne]; exact hab
    clear hab
    have HSE : Aside0 (kS al k = kSFold al k (kTests k) 1000) := ⟨by rw [kS_eq al k HOK.out, if_neg (by rw [hend]; decide)]⟩
    clear hend
    obtain ⟨x, hxd⟩ : ∃ x, x = t.getD p 0 := ⟨_, rfl⟩
    have HKT : Aside0 (x = -1 ∨ x = kS al k) := ⟨by
      have h1 := HT.out.2 k HOK.out
      rw [HPP.out, ← hxd] at h1
      exact h1⟩
    have HCELL : Aside0 (∀ Wq, Kd.R (Kd.int .i64) 3 Wq w0.heap.size (fun k_ => k_ = g) (.slice (some ⟨g, 0, none⟩) N cap) t → Wq.cell? ⟨g, p, none⟩ = some (.int .i64 x) ∧ Wq.frozen? ⟨g, p, none⟩ = false) := ⟨fun Wq h => by
      have h1 := Kd.R_celln 0 h (p : Int) (by omega) (by omega)
      rw [Int.toNat_natCast] at h1
      rw [hxd]
      simpa [rdOf] using h1⟩
    clear hxd
    go_enter Try.func13, Try.ntmps13
    by_cases hx1 : x = -1
    · have hd1 : decide (0 ≤ x) = false := decide_eq_false (by omega)
      have hd2 : (x ≥ 0) = False := by simp; omega
      clear HKT
      go_wp2_with (first
        | ((with_reducible refine gate_dst (N := 4) rfl ?_); refine box_event ?hg (N := 4) ?hd (cs := #[.int .i64 k.a, .int .i64 k.b, .int .i64 k.c, .int .i64 k.d, .int .i64 k.w, .int .i64 k.s]) (t := 31) ?hr ?_; (case hd => rfl); (case hg => rfl); (case hr => first | (go_simp; done) | (go_simp; rfl)); intro gb hg w2 hbox hb; have NE := Aside0.mk (show gb ≠ g by intro he; have h1_ := Kd.R_lt HR.out g (by simp [Value.ownBlock]); omega); have n0_ := Aside0.mk (below_step HB.out hb); have n1_ := Aside0.mk (Kd.R_below HR.out hb); have n2_ := Aside0.mk (Kept.of_below hb (fun k_ => k_ = g)); clear HB HR; have HB := n0_; have HR := n1_; have HKp := n2_; have KB := Aside0.mk hbox; clear n0_ n1_ n2_; have hb0 : w2.cell? ⟨gb, 0, none⟩ = some (.int .i64 k.a) := (blk_cell KB.out 0).trans rfl; have hb1 : w2.cell? ⟨gb, 1, none⟩ = some (.int .i64 k.b) := (blk_cell KB.out 1).trans rfl; have hb2 : w2.cell? ⟨gb, 2, none⟩ = some (.int .i64 k.c) := (blk_cell KB.out 2).trans rfl; have hb3 : w2.cell? ⟨gb, 3, none⟩ = some (.int .i64 k.d) := (blk_cell KB.out 3).trans rfl; have hb4 : w2.cell? ⟨gb, 4, none⟩ = some (.int .i64 k.w) := (blk_cell KB.out 4).trans rfl; have hb5 : w2.cell? ⟨gb, 5, none⟩ = some (.int .i64 k.s) := (blk_cell KB.out 5).trans rfl; clear hg hbox hb)
        | (go_at_call 24; with_reducible refine (HPL.out _).mono ?_; rintro e_ w3 ⟨rfl, hb⟩; have n0_ := Aside0.mk (below_step HB.out hb); have n1_ := Aside0.mk (Kd.R_below HR.out hb); have n2_ := Aside0.mk (HKp.out.below hb); have n3_ := Aside0.mk (blk_below KB.out hb); clear HB HR HKp KB; have HB := n0_; have HR := n1_; have HKp := n2_; have KB := n3_; clear n0_ n1_ n2_ n3_; clear hb0 hb1 hb2 hb3 hb4 hb5; have hb0 : w3.cell? ⟨gb, 0, none⟩ = some (.int .i64 k.a) := (blk_cell KB.out 0).trans rfl; have hb1 : w3.cell? ⟨gb, 1, none⟩ = some (.int .i64 k.b) := (blk_cell KB.out 1).trans rfl; have hb2 : w3.cell? ⟨gb, 2, none⟩ = some (.int .i64 k.c) := (blk_cell KB.out 2).trans rfl; have hb3 : w3.cell? ⟨gb, 3, none⟩ = some (.int .i64 k.d) := (blk_cell KB.out 3).trans rfl; have hb4 : w3.cell? ⟨gb, 4, none⟩ = some (.int .i64 k.w) := (blk_cell KB.out 4).trans rfl; have hb5 : w3.cell? ⟨gb, 5, none⟩ = some (.int .i64 k.s) := (blk_cell KB.out 5).trans rfl; clear hb; obtain ⟨hx, hf⟩ := HCELL.out _ HR.out; clear hf))
      clear hx hb0 hb1 hb2 hb3 hb4 hb5 hd1 hd2 hx1 HPL
      go_loopg [8, 9] 2 (fun gg v8 v9 wr => ∃ (q : Nat) (o : Int) (tb : List Int), v9 = .int .i64 q ∧ v8 = .int .i64 o ∧ q ≤ 2 ∧ 2 - q ≤ gg ∧ 0 ≤ o ∧ o ≤ 1000 ∧ Aside0 (o = kSFold al k (rowsTo k q) 1000) ∧ Aside0 (KTab al tb) ∧ Aside0 (Kd.R (Kd.int .i64) 3 wr w0.heap.size (fun k_ => k_ = g) (.slice (some ⟨g, 0, none⟩) N cap) tb) ∧ Aside0 (Below w0.heap.size w0 wr) ∧ Aside0 (Kept W wr (fun k_ => k_ = g)) ∧ Aside0 (wr.heap[gb]? = some (.cells #[.int .i64 k.a, .int .i64 k.b, .int .i64 k.c, .int .i64 k.d, .int .i64 k.w, .int .i64 k.s] 31 (0, 0))))
      case atStart => exact ⟨0, 1000, t, rfl, rfl, Nat.zero_le _, Nat.le_refl _, by omega, by omega, ⟨rfl⟩, HT, HR, HB, HKp, KB⟩
      case round =>
        clear HT HR HB HKp KB HCELL
        obtain ⟨q, o, tb, rfl, rfl, hq, hgg, ho0, ho1, HO, HT, HR, HB, HKp, KB⟩ := hrel
        have hb0 : wr.cell? ⟨gb, 0, none⟩ = some (.int .i64 k.a) := (blk_cell KB.out 0).trans rfl
        have hb1 : wr.cell? ⟨gb, 1, none⟩ = some (.int .i64 k.b) := (blk_cell KB.out 1).trans rfl
        have hb2 : wr.cell? ⟨gb, 2, none⟩ = some (.int .i64 k.c) := (blk_cell KB.out 2).trans rfl
        have hb3 : wr.cell? ⟨gb, 3, none⟩ = some (.int .i64 k.d) := (blk_cell KB.out 3).trans rfl
        have hb4 : wr.cell? ⟨gb, 4, none⟩ = some (.int .i64 k.w) := (blk_cell KB.out 4).trans rfl
        have hb5 : wr.cell? ⟨gb, 5, none⟩ = some (.int .i64 k.s) := (blk_cell KB.out 5).trans rfl
        rcases (by omega : q = 0 ∨ q = 1 ∨ q = 2) with rfl | rfl | rfl
        · obtain ⟨lo, hlo⟩ : ∃ lo, lo = kLo k false := ⟨_, rfl⟩
          obtain ⟨n, hnu⟩ : ∃ n, n = kNu k false := ⟨_, rfl⟩
          have hr := kLoNu k HOK.out false
          have hmay := kiMay_is k HOK.out false
          have HMEM := Aside0.mk (kRow_in k false)
          have hsum := rowsTo_step0 al k
          rw [← hlo, ← hnu] at hmay hr HMEM hsum
          rw [← HO.out] at hsum
          have HMAY := Aside0.mk (fun (W : World) => spec_kiMay.calls 1 k.a k.b k.c k.d k.w k.s false _ _ W hmay)
          have HSUM := Aside0.mk hsum
          obtain ⟨hr1, hr2, hr3⟩ := hr
          clear hlo hnu hmay HO hsum
          go_wp2_with (go_at_call 25; with_reducible refine (HMAY.out _).mono ?_; rintro e_ w3 ⟨rfl, hb⟩; have n0_ := Aside0.mk (below_step HB.out hb); have n1_ := Aside0.mk (Kd.R_below HR.out hb); have n2_ := Aside0.mk (HKp.out.below hb); have n3_ := Aside0.mk (blk_below KB.out hb); clear HB HR HKp KB; have HB := n0_; have HR := n1_; have HKp := n2_; have KB := n3_; clear n0_ n1_ n2_ n3_; clear hb0 hb1 hb2 hb3 hb4 hb5; have hb0 : w3.cell? ⟨gb, 0, none⟩ = some (.int .i64 k.a) := (blk_cell KB.out 0).trans rfl; have hb1 : w3.cell? ⟨gb, 1, none⟩ = some (.int .i64 k.b) := (blk_cell KB.out 1).trans rfl; have hb2 : w3.cell? ⟨gb, 2, none⟩ = some (.int .i64 k.c) := (blk_cell KB.out 2).trans rfl; have hb3 : w3.cell? ⟨gb, 3, none⟩ = some (.int .i64 k.d) := (blk_cell KB.out 3).trans rfl; have hb4 : w3.cell? ⟨gb, 4, none⟩ = some (.int .i64 k.w) := (blk_cell KB.out 4).trans rfl; have hb5 : w3.cell? ⟨gb, 5, none⟩ = some (.int .i64 k.s) := (blk_cell KB.out 5).trans rfl; clear hb)
          clear HMAY hb0 hb1 hb2 hb3 hb4 hb5
          go_loopg [8, 12] n (fun gg v8 v12 wr => ∃ (i : Nat) (o2 : Int) (tb : List Int), v12 = .int .i64 (lo + 1 + (i : Int)) ∧ v8 = .int .i64 o2 ∧ i ≤ n ∧ n - i ≤ gg ∧ 0 ≤ o2 ∧ o2 ≤ 1000 ∧ Aside0 (o2 = kSFold al k (kRow false lo i) o) ∧ Aside0 (KTab al tb) ∧ Aside0 (Kd.R (Kd.int .i64) 3 wr w0.heap.size (fun k_ => k_ = g) (.slice (some ⟨g, 0, none⟩) N cap) tb) ∧ Aside0 (Below w0.heap.size w0 wr) ∧ Aside0 (Kept W wr (fun k_ => k_ = g)) ∧ Aside0 (wr.heap[gb]? = some (.cells #[.int .i64 k.a, .int .i64 k.b, .int .i64 k.c, .int .i64 k.d, .int .i64 k.w, .int .i64 k.s] 31 (0, 0))))
          case atStart => exact ⟨0, o, tb, by simp, rfl, Nat.zero_le _, Nat.le_refl _, ho0, ho1, ⟨rfl⟩, HT, HR, HB, HKp, KB⟩
          case round =>
            clear HT HR HB HKp KB
            obtain ⟨i, o2, tb, rfl, rfl, hi, hgg2, hp0, hp1, HO2, HT, HR, HB, HKp, KB⟩ := hrel
            by_cases hlt : i < n
            · have hz1 : lo + 1 + (i : Int) ≤ lo + (n : Int) := by omega
              have hx := kSW_range al k (false, lo + 1 + (i : Int))
              have HN : Aside0 (min o2 (kSW al k (false, lo + 1 + (i : Int))) = kSFold al k (kRow false lo (i + 1)) o) := ⟨by
                rw [kRow_succ, kSFold_append, ← HO2.out]; rfl⟩
              have HWI : Aside0 (∀ (tb : List Int) (W : World), KTab al tb → Below w0.heap.size w0 W → Kd.R (Kd.int .i64) 3 W w0.heap.size (fun k_ => k_ = g) (.slice (some ⟨g, 0, none⟩) N cap) tb → Calls Try.prog 27 #[.slice (some ⟨g, 0, none⟩) N cap, .agg #[.int .i64 k.a, .int .i64 k.b, .int .i64 k.c, .int .i64 k.d, .int .i64 k.w, .int .i64 k.s], .bool false, .int .i64 (lo + 1 + (i : Int)), .bool (!al)] W fun e' w' => ∃ t', e' = .returned (.int .i64 (kSW al k (false, lo + 1 + (i : Int)))) ∧ KTab al t' ∧ Kd.R (Kd.int .i64) 3 w' w0.heap.size (fun k_ => k_ = g) (.slice (some ⟨g, 0, none⟩) N cap) t' ∧ Below w0.heap.size w0 w' ∧ Kept W w' (fun k_ => k_ = g)) :=
                ⟨fun tb W h1 h2 h3 => kiWith_of al m hP N HNN.out k HOK.out HMU.out false (lo + 1 + (i : Int)) (HMEM.out i hlt) g cap tb w0 W h1 h2 h3⟩
              generalize kSW al k (false, lo + 1 + (i : Int)) = x at hx HN HWI
              try simp only [hq3] at HWI
              have HMN := Aside0.mk (fun (W : World) => spec_l1Least.calls0 o2 x (min o2 x) W (spec_l1Least_is _ _))
              have hm2 : 0 ≤ min o2 x ∧ min o2 x ≤ 1000 := by omega
              generalize min o2 x = o3 at HN HMN hm2
              have hw1 : IntKind.i64.wrap (lo + 1 + (i : Int) + 1) = lo + 1 + (i : Int) + 1 := by rw [i64_w]; unfold wrap64; omega
              clear HO2
              have hb0 : wr.cell? ⟨gb, 0, none⟩ = some (.int .i64 k.a) := (blk_cell KB.out 0).trans rfl
              have hb1 : wr.cell? ⟨gb, 1, none⟩ = some (.int .i64 k.b) := (blk_cell KB.out 1).trans rfl
              have hb2 : wr.cell? ⟨gb, 2, none⟩ = some (.int .i64 k.c) := (blk_cell KB.out 2).trans rfl
              have hb3 : wr.cell? ⟨gb, 3, none⟩ = some (.int .i64 k.d) := (blk_cell KB.out 3).trans rfl
              have hb4 : wr.cell? ⟨gb, 4, none⟩ = some (.int .i64 k.w) := (blk_cell KB.out 4).trans rfl
              have hb5 : wr.cell? ⟨gb, 5, none⟩ = some (.int .i64 k.s) := (blk_cell KB.out 5).trans rfl
              go_wp2_with (first
                | (go_at_call 27; with_reducible refine (HWI.out _ _ HT.out HB.out HR.out).mono ?_; rintro e_ w3 ⟨t', rfl, hT, hr, hb, hk⟩; have n2_ := Aside0.mk (HKp.out.then_ hk (fun k_ h_ => Or.inl h_)); have n3_ := Aside0.mk (blk_kept KB.out hk NE.out); clear HB HR HKp KB HT; have HB := Aside0.mk hb; have HR := Aside0.mk hr; have HT := Aside0.mk hT; have HKp := n2_; have KB := n3_; clear n2_ n3_; clear hb0 hb1 hb2 hb3 hb4 hb5; have hb0 : w3.cell? ⟨gb, 0, none⟩ = some (.int .i64 k.a) := (blk_cell KB.out 0).trans rfl; have hb1 : w3.cell? ⟨gb, 1, none⟩ = some (.int .i64 k.b) := (blk_cell KB.out 1).trans rfl; have hb2 : w3.cell? ⟨gb, 2, none⟩ = some (.int .i64 k.c) := (blk_cell KB.out 2).trans rfl; have hb3 : w3.cell? ⟨gb, 3, none⟩ = some (.int .i64 k.d) := (blk_cell KB.out 3).trans rfl; have hb4 : w3.cell? ⟨gb, 4, none⟩ = some (.int .i64 k.w) := (blk_cell KB.out 4).trans rfl; have hb5 : w3.cell? ⟨gb, 5, none⟩ = some (.int .i64 k.s) := (blk_cell KB.out 5).trans rfl; clear hb hr hT hk)
                | (go_at_call 26; with_reducible refine (HMN.out _).mono ?_; rintro e_ w_ ⟨rfl, rfl⟩))
              go_roundg (n - (i + 1))
              case measure => omega
              case rel => exact ⟨i + 1, o3, _, by rw [show lo + 1 + ((i + 1 : Nat) : Int) = lo + 1 + (i : Int) + 1 by clear hw1; omega], rfl, by clear hw1; omega, by clear hw1; omega, hm2.1, hm2.2, HN, HT, HR, HB, HKp, KB⟩
            · have hz1 : ¬ lo + 1 + (i : Int) ≤ lo + (n : Int) := by omega
              obtain rfl : i = n := by omega
              have HN : Aside0 (o2 = kSFold al k (rowsTo k 1) 1000) := ⟨by rw [HO2.out, HSUM.out]⟩
              clear HO2 HSUM HMEM
              go_wp2
              go_roundg (2 - 1)
              case measure => omega
              case rel => exact ⟨1, o2, tb, by go_num, rfl, by omega, by omega, hp0, hp1, HN, HT, HR, HB, HKp, KB⟩

        · obtain ⟨lo, hlo⟩ : ∃ lo, lo = kLo k true := ⟨_, rfl⟩
          obtain ⟨n, hnu⟩ : ∃ n, n = kNu k true := ⟨_, rfl⟩
          have hr := kLoNu k HOK.out true
          have hmay := kiMay_is k HOK.out true
          have HMEM := Aside0.mk (kRow_in k true)
          have hsum := rowsTo_step1 al k
          rw [← hlo, ← hnu] at hmay hr HMEM hsum
          rw [← HO.out] at hsum
          have HMAY := Aside0.mk (fun (W : World) => spec_kiMay.calls 1 k.a k.b k.c k.d k.w k.s true _ _ W hmay)
          have HSUM := Aside0.mk hsum
          obtain ⟨hr1, hr2, hr3⟩ := hr
          clear hlo hnu hmay HO hsum
          go_wp2_with (go_at_call 25; with_reducible refine (HMAY.out _).mono ?_; rintro e_ w3 ⟨rfl, hb⟩; have n0_ := Aside0.mk (below_step HB.out hb); have n1_ := Aside0.mk (Kd.R_below HR.out hb); have n2_ := Aside0.mk (HKp.out.below hb); have n3_ := Aside0.mk (blk_below KB.out hb); clear HB HR HKp KB; have HB := n0_; have HR := n1_; have HKp := n2_; have KB := n3_; clear n0_ n1_ n2_ n3_; clear hb0 hb1 hb2 hb3 hb4 hb5; have hb0 : w3.cell? ⟨gb, 0, none⟩ = some (.int .i64 k.a) := (blk_cell KB.out 0).trans rfl; have hb1 : w3.cell? ⟨gb, 1, none⟩ = some (.int .i64 k.b) := (blk_cell KB.out 1).trans rfl; have hb2 : w3.cell? ⟨gb, 2, none⟩ = some (.int .i64 k.c) := (blk_cell KB.out 2).trans rfl; have hb3 : w3.cell? ⟨gb, 3, none⟩ = some (.int .i64 k.d) := (blk_cell KB.out 3).trans rfl; have hb4 : w3.cell? ⟨gb, 4, none⟩ = some (.int .i64 k.w) := (blk_cell KB.out 4).trans rfl; have hb5 : w3.cell? ⟨gb, 5, none⟩ = some (.int .i64 k.s) := (blk_cell KB.out 5).trans rfl; clear hb)
          clear HMAY hb0 hb1 hb2 hb3 hb4 hb5
          go_loopg [8, 12] n (fun gg v8 v12 wr => ∃ (i : Nat) (o2 : Int) (tb : List Int), v12 = .int .i64 (lo + 1 + (i : Int)) ∧ v8 = .int .i64 o2 ∧ i ≤ n ∧ n - i ≤ gg ∧ 0 ≤ o2 ∧ o2 ≤ 1000 ∧ Aside0 (o2 = kSFold al k (kRow true lo i) o) ∧ Aside0 (KTab al tb) ∧ Aside0 (Kd.R (Kd.int .i64) 3 wr w0.heap.size (fun k_ => k_ = g) (.slice (some ⟨g, 0, none⟩) N cap) tb) ∧ Aside0 (Below w0.heap.size w0 wr) ∧ Aside0 (Kept W wr (fun k_ => k_ = g)) ∧ Aside0 (wr.heap[gb]? = some (.cells #[.int .i64 k.a, .int .i64 k.b, .int .i64 k.c, .int .i64 k.d, .int .i64 k.w, .int .i64 k.s] 31 (0, 0))))
          case atStart => exact ⟨0, o, tb, by simp, rfl, Nat.zero_le _, Nat.le_refl _, ho0, ho1, ⟨rfl⟩, HT, HR, HB, HKp, KB⟩
          case round =>
            clear HT HR HB HKp KB
            obtain ⟨i, o2, tb, rfl, rfl, hi, hgg2, hp0, hp1, HO2, HT, HR, HB, HKp, KB⟩ := hrel
            by_cases hlt : i < n
            · have hz1 : lo + 1 + (i : Int) ≤ lo + (n : Int) := by omega
              have hx := kSW_range al k (true, lo + 1 + (i : Int))
              have HN : Aside0 (min o2 (kSW al k (true, lo + 1 + (i : Int))) = kSFold al k (kRow true lo (i + 1)) o) := ⟨by
                rw [kRow_succ, kSFold_append, ← HO2.out]; rfl⟩
              have HWI : Aside0 (∀ (tb : List Int) (W : World), KTab al tb → Below w0.heap.size w0 W → Kd.R (Kd.int .i64) 3 W w0.heap.size (fun k_ => k_ = g) (.slice (some ⟨g, 0, none⟩) N cap) tb → Calls Try.prog 27 #[.slice (some ⟨g, 0, none⟩) N cap, .agg #[.int .i64 k.a, .int .i64 k.b, .int .i64 k.c, .int .i64 k.d, .int .i64 k.w, .int .i64 k.s], .bool true, .int .i64 (lo + 1 + (i : Int)), .bool (!al)] W fun e' w' => ∃ t', e' = .returned (.int .i64 (kSW al k (true, lo + 1 + (i : Int)))) ∧ KTab al t' ∧ Kd.R (Kd.int .i64) 3 w' w0.heap.size (fun k_ => k_ = g) (.slice (some ⟨g, 0, none⟩) N cap) t' ∧ Below w0.heap.size w0 w' ∧ Kept W w' (fun k_ => k_ = g)) :=
                ⟨fun tb W h1 h2 h3 => kiWith_of al m hP N HNN.out k HOK.out HMU.out true (lo + 1 + (i : Int)) (HMEM.out i hlt) g cap tb w0 W h1 h2 h3⟩
              generalize kSW al k (true, lo + 1 + (i : Int)) = x at hx HN HWI
              try simp only [hq3] at HWI
              have HMN := Aside0.mk (fun (W : World) => spec_l1Least.calls0 o2 x (min o2 x) W (spec_l1Least_is _ _))
              have hm2 : 0 ≤ min o2 x ∧ min o2 x ≤ 1000 := by omega
              generalize min o2 x = o3 at HN HMN hm2
              have hw1 : IntKind.i64.wrap (lo + 1 + (i : Int) + 1) = lo + 1 + (i : Int) + 1 := by rw [i64_w]; unfold wrap64; omega
              clear HO2
              have hb0 : wr.cell? ⟨gb, 0, none⟩ = some (.int .i64 k.a) := (blk_cell KB.out 0).trans rfl
              have hb1 : wr.cell? ⟨gb, 1, none⟩ = some (.int .i64 k.b) := (blk_cell KB.out 1).trans rfl
              have hb2 : wr.cell? ⟨gb, 2, none⟩ = some (.int .i64 k.c) := (blk_cell KB.out 2).trans rfl
              have hb3 : wr.cell? ⟨gb, 3, none⟩ = some (.int .i64 k.d) := (blk_cell KB.out 3).trans rfl
              have hb4 : wr.cell? ⟨gb, 4, none⟩ = some (.int .i64 k.w) := (blk_cell KB.out 4).trans rfl
              have hb5 : wr.cell? ⟨gb, 5, none⟩ = some (.int .i64 k.s) := (blk_cell KB.out 5).trans rfl
              go_wp2_with (first
                | (go_at_call 27; with_reducible refine (HWI.out _ _ HT.out HB.out HR.out).mono ?_; rintro e_ w3 ⟨t', rfl, hT, hr, hb, hk⟩; have n2_ := Aside0.mk (HKp.out.then_ hk (fun k_ h_ => Or.inl h_)); have n3_ := Aside0.mk (blk_kept KB.out hk NE.out); clear HB HR HKp KB HT; have HB := Aside0.mk hb; have HR := Aside0.mk hr; have HT := Aside0.mk hT; have HKp := n2_; have KB := n3_; clear n2_ n3_; clear hb0 hb1 hb2 hb3 hb4 hb5; have hb0 : w3.cell? ⟨gb, 0, none⟩ = some (.int .i64 k.a) := (blk_cell KB.out 0).trans rfl; have hb1 : w3.cell? ⟨gb, 1, none⟩ = some (.int .i64 k.b) := (blk_cell KB.out 1).trans rfl; have hb2 : w3.cell? ⟨gb, 2, none⟩ = some (.int .i64 k.c) := (blk_cell KB.out 2).trans rfl; have hb3 : w3.cell? ⟨gb, 3, none⟩ = some (.int .i64 k.d) := (blk_cell KB.out 3).trans rfl; have hb4 : w3.cell? ⟨gb, 4, none⟩ = some (.int .i64 k.w) := (blk_cell KB.out 4).trans rfl; have hb5 : w3.cell? ⟨gb, 5, none⟩ = some (.int .i64 k.s) := (blk_cell KB.out 5).trans rfl; clear hb hr hT hk)
                | (go_at_call 26; with_reducible refine (HMN.out _).mono ?_; rintro e_ w_ ⟨rfl, rfl⟩))
              go_roundg (n - (i + 1))
              case measure => omega
              case rel => exact ⟨i + 1, o3, _, by rw [show lo + 1 + ((i + 1 : Nat) : Int) = lo + 1 + (i : Int) + 1 by clear hw1; omega], rfl, by clear hw1; omega, by clear hw1; omega, hm2.1, hm2.2, HN, HT, HR, HB, HKp, KB⟩
            · have hz1 : ¬ lo + 1 + (i : Int) ≤ lo + (n : Int) := by omega
              obtain rfl : i = n := by omega
              have HN : Aside0 (o2 = kSFold al k (rowsTo k 2) 1000) := ⟨by rw [HO2.out, HSUM.out]⟩
              clear HO2 HSUM HMEM
              go_wp2
              go_roundg (2 - 2)
              case measure => omega
              case rel => exact ⟨2, o2, tb, by go_num, rfl, by omega, by omega, hp0, hp1, HN, HT, HR, HB, HKp, KB⟩

        · have hres : o = kS al k := by rw [HO.out, HSE.out]; rfl
          obtain ⟨hx, hf⟩ := Kd.R_celln 0 HR.out (p : Int) (by omega) (by omega)
          have HG := Aside0.mk (Kd.R_base HR.out g (by simp [Value.ownBlock]))
          have hput := Kd.R_putn HR.out (p : Int) o
          have hkt := KTab.put HT.out HOK.out
          rw [Int.toNat_natCast] at hx hf hput
          rw [← hres, HPP.out] at hkt
          have HPUT := Aside0.mk hput
          have HKT2 := Aside0.mk hkt
          have HRES := Aside0.mk hres
          clear hput hkt hres HO
          go_wp2
          go_ret
          exact ⟨_, (by rw [HRES.out]; rfl), HKT2.out, HPUT.out, below_set HB.out HG.out, HKp.out.setCell (Or.inl rfl) _⟩
    · have hxs : x = kS al k := HKT.out.resolve_left hx1
      have hxr := kS_range al k
      have hd1 : decide (0 ≤ x) = true := decide_eq_true (by omega)
      have hd2 : (x ≥ 0) = True := by simp; omega
      have HRES := Aside0.mk hxs
      clear HKT hxs hxr hx1
      go_wp2_with (first
        | ((with_reducible refine gate_dst (N := 4) rfl ?_); refine box_event ?hg (N := 4) ?hd (cs := #[.int .i64 k.a, .int .i64 k.b, .int .i64 k.c, .int .i64 k.d, .int .i64 k.w, .int .i64 k.s]) (t := 31) ?hr ?_; (case hd => rfl); (case hg => rfl); (case hr => first | (go_simp; done) | (go_simp; rfl)); intro gb hg w2 hbox hb; have NE := Aside0.mk (show gb ≠ g by intro he; have h1_ := Kd.R_lt HR.out g (by simp [Value.ownBlock]); omega); have n0_ := Aside0.mk (below_step HB.out hb); have n1_ := Aside0.mk (Kd.R_below HR.out hb); have n2_ := Aside0.mk (Kept.of_below hb (fun k_ => k_ = g)); clear HB HR; have HB := n0_; have HR := n1_; have HKp := n2_; have KB := Aside0.mk hbox; clear n0_ n1_ n2_; have hb0 : w2.cell? ⟨gb, 0, none⟩ = some (.int .i64 k.a) := (blk_cell KB.out 0).trans rfl; have hb1 : w2.cell? ⟨gb, 1, none⟩ = some (.int .i64 k.b) := (blk_cell KB.out 1).trans rfl; have hb2 : w2.cell? ⟨gb, 2, none⟩ = some (.int .i64 k.c) := (blk_cell KB.out 2).trans rfl; have hb3 : w2.cell? ⟨gb, 3, none⟩ = some (.int .i64 k.d) := (blk_cell KB.out 3).trans rfl; have hb4 : w2.cell? ⟨gb, 4, none⟩ = some (.int .i64 k.w) := (blk_cell KB.out 4).trans rfl; have hb5 : w2.cell? ⟨gb, 5, none⟩ = some (.int .i64 k.s) := (blk_cell KB.out 5).trans rfl; clear hg hbox hb)
        | (go_at_call 24; with_reducible refine (HPL.out _).mono ?_; rintro e_ w3 ⟨rfl, hb⟩; have n0_ := Aside0.mk (below_step HB.out hb); have n1_ := Aside0.mk (Kd.R_below HR.out hb); have n2_ := Aside0.mk (HKp.out.below hb); have n3_ := Aside0.mk (blk_below KB.out hb); clear HB HR HKp KB; have HB := n0_; have HR := n1_; have HKp := n2_; have KB := n3_; clear n0_ n1_ n2_ n3_; clear hb0 hb1 hb2 hb3 hb4 hb5; have hb0 : w3.cell? ⟨gb, 0, none⟩ = some (.int .i64 k.a) := (blk_cell KB.out 0).trans rfl; have hb1 : w3.cell? ⟨gb, 1, none⟩ = some (.int .i64 k.b) := (blk_cell KB.out 1).trans rfl; have hb2 : w3.cell? ⟨gb, 2, none⟩ = some (.int .i64 k.c) := (blk_cell KB.out 2).trans rfl; have hb3 : w3.cell? ⟨gb, 3, none⟩ = some (.int .i64 k.d) := (blk_cell KB.out 3).trans rfl; have hb4 : w3.cell? ⟨gb, 4, none⟩ = some (.int .i64 k.w) := (blk_cell KB.out 4).trans rfl; have hb5 : w3.cell? ⟨gb, 5, none⟩ = some (.int .i64 k.s) := (blk_cell KB.out 5).trans rfl; clear hb; obtain ⟨hx, hf⟩ := HCELL.out _ HR.out; clear hf))
      go_ret
      exact ⟨_, (by rw [HRES.out]; rfl), HT.out, HR.out, HB.out, HKp.out⟩
theorem FewC_all (al : Bool) : ∀ m, FewC al m
  | 0 => fun _ _ _ _ _ _ _ _ _ h => absurd h (Nat.not_lt_zero _)
  | m + 1 => kiFew_step al m (FewC_all al m)
theorem slice_ownB (g n c : Nat) : (Value.slice (some ⟨g, 0, none⟩) n c).ownBlock = some g := by simp [Value.ownBlock]

end Go.Proofs.Yteboofglcnceoaa.PrintA
