-- written by this session's own driver (wip/gen.py) with the kit's print and contracts of our own
import Derived.Test.YteboofglcnceoaaPrintA0
import Derived.Test.YteboofglcnceoaaPrintA17
import Derived.Test.YteboofglcnceoaaPrintA18
import Derived.Test.YteboofglcnceoaaPrintA21
import Derived.Test.YteboofglcnceoaaPrintA27
namespace Go.Proofs.Yteboofglcnceoaa.PrintA
open Go.RowKit Go.Proofs.YteboofglcnceoaaLib Go.Proofs.YteboofglcnceoaaW.PrintWords Go.Proofs.YteboofglcnceoaaW.PrintLast Go.Proofs.YteboofglcnceoaaW.PrintMore
attribute [local go_sem] max2_int min2_int max_two min_two max_three min_three max_four min_four   -- for this text's walks alone
set_option linter.unusedVariables false
set_option linter.unusedSimpArgs false

/-! ### impl_solver_first: function 21, a contract of our own -/
structure KJ (al : Bool) (k : KSt) (gs mb bs bk : Nat) (w3 W : World) (c : Nat) (Wi : World) : Prop where
  sol : Wi.heap[gs]? = some (.cells #[.bool al, .map (some mb)] 52 (0, 0))
  memo : Memo al Wi mb c
  kept : KeptM W Wi mb
  row : Kept w3 Wi (fun k_ => k_ = mb)
  bs : Wi.heap[bs]? = some (.cells #[.pointer (some ⟨gs, 0, none⟩)] 33 (0, 0))
  bk : Wi.heap[bk]? = some (.cells #[.int .i64 k.a, .int .i64 k.b, .int .i64 k.c, .int .i64 k.d, .int .i64 k.w, .int .i64 k.s] 37 (0, 0))
theorem KJ.below {al : Bool} {k : KSt} {gs mb bs bk : Nat} {w3 W : World} {c : Nat} {Wi w' : World} (h : KJ al k gs mb bs bk w3 W c Wi) (hb : Below Wi.heap.size Wi w') : KJ al k gs mb bs bk w3 W c w' :=
  ⟨blk_below h.sol hb, h.memo.below hb, h.kept.below hb, h.row.below hb, blk_below h.bs hb, blk_below h.bk hb⟩
theorem KJ.call {al : Bool} {k : KSt} {gs mb bs bk : Nat} {w3 W : World} {c c' : Nat} {Wi w' : World} (h : KJ al k gs mb bs bk w3 W c Wi) (h1 : gs ≠ mb) (h2 : bs ≠ mb) (h3 : bk ≠ mb) (hM : Memo al w' mb c') (hk : KeptM Wi w' mb) : KJ al k gs mb bs bk w3 W c' w' :=
  ⟨blk_kept h.sol hk.one h1, hM, h.kept.then_ hk, h.row.then_ hk.one (fun _ h_ => Or.inl h_), blk_kept h.bs hk.one h2, blk_kept h.bk hk.one h3⟩
theorem KJ.drew {al : Bool} {k : KSt} {gs mb bs bk : Nat} {w3 W : World} {c : Nat} {Wi : World} (h : KJ al k gs mb bs bk w3 W c Wi) : KJ al k gs mb bs bk w3 W c Wi.drew :=
  ⟨h.sol, h.memo.step (w' := Wi.drew) rfl, h.kept.drew, h.row.drew, h.bs, h.bk⟩
set_option maxHeartbeats 8000000 in
set_option maxRecDepth 100000 in
theorem firstC_calls (al : Bool) (k : KSt) (hk : KOk k) (gs mb bs bk c : Nat) (w3 W Wi : World) (st : Bool) (f : Int) (ht : (st, f) ∈ kTests k) (hn : c + 2 * kT 12 + kT 13 ≤ 2000000000000000000) (hne : gs ≠ mb) (hbs : bs ≠ mb) (hbk : bk ≠ mb) (hJ : KJ al k gs mb bs bk w3 W c Wi) :
    Calls Try.prog 33 #[.agg #[.bool st, .int .i64 f, .bool false], .pointer (some ⟨bs, 0, none⟩), .pointer (some ⟨bk, 0, none⟩)] Wi fun e w' => e = .returned (.bool (kW al k (st, f) == kVal al k)) ∧ KJ al k gs mb bs bk w3 W (c + 2 * kT 12 + kT 13) w' := by
  have HJ := Aside0.mk hJ
  have HW : Aside0 (∀ (Wq : World), KJ al k gs mb bs bk w3 W c Wq → Calls Try.prog 31 #[.pointer (some ⟨gs, 0, none⟩), .agg #[.int .i64 k.a, .int .i64 k.b, .int .i64 k.c, .int .i64 k.d, .int .i64 k.w, .int .i64 k.s], .agg #[.bool st, .int .i64 f, .bool false]] Wq fun e' w' => e' = .returned (.int .i64 (kW al k (st, f))) ∧ KJ al k gs mb bs bk w3 W (c + 2 * kT 12) w' ∧ KeptM Wq w' mb) := ⟨fun Wq h => (with_of al 12 (LeastC_all al 12) k hk (kMu_le hk) st f ht gs mb c Wq (by omega) hne h.sol h.memo).mono (by
    rintro e_ w_ ⟨rfl, h1, h2⟩
    exact ⟨rfl, h.call hne hbs hbk h1 h2, h2⟩)⟩
  have HL : Aside0 (∀ (Wq : World), KJ al k gs mb bs bk w3 W (c + 2 * kT 12) Wq → Calls Try.prog 18 #[.pointer (some ⟨gs, 0, none⟩), .agg #[.int .i64 k.a, .int .i64 k.b, .int .i64 k.c, .int .i64 k.d, .int .i64 k.w, .int .i64 k.s]] Wq fun e' w' => e' = .returned (.int .i64 (kVal al k)) ∧ KJ al k gs mb bs bk w3 W (c + 2 * kT 12 + kT 13) w' ∧ KeptM Wq w' mb) := ⟨fun Wq h => (LeastC_all al 13 k gs mb (c + 2 * kT 12) Wq hk (by have := kMu_le hk; omega) hn hne h.sol h.memo).mono (by
    rintro e_ w_ ⟨rfl, h1, h2⟩
    exact ⟨rfl, h.call hne hbs hbk h1 h2, h2⟩)⟩
  generalize kW al k (st, f) = x at HW ⊢
  generalize kVal al k = y at HL ⊢
  generalize c + 2 * kT 12 + kT 13 = c3 at HL ⊢
  generalize c + 2 * kT 12 = c2 at HW HL
  clear hJ ht hn hne hbs hbk hk
  go_enter Try.func33, Try.ntmps33
  go_wp2_with ((with_reducible refine gate_dst (N := 3) rfl ?_); refine box_event ?hg (N := 3) ?hd (cs := #[.bool st, .int .i64 f, .bool false]) (t := 42) ?hr ?_; (case hd => rfl); (case hg => rfl); (case hr => first | (go_simp; done) | (go_simp; rfl)); intro gt hg w2 hbox hb; have NT := Aside0.mk (show gt ≠ mb by intro he; have h1_ := Memo.lt HJ.out.memo; omega); have n1_ := Aside0.mk (KJ.drew (HJ.out.below hb)); have KT := Aside0.mk (show w2.drew.heap[gt]? = some (.cells #[.bool st, .int .i64 f, .bool false] 42 (0, 0)) from hbox); clear HJ hg hbox hb; have HJ := n1_; clear n1_)
  refine start_ (n := 9) (S := fun w' => w'.cell? ⟨bs, 0, none⟩ = some (.pointer (some ⟨gs, 0, none⟩)) ∧ w'.cell? ⟨bk, 0, none⟩ = some (.int .i64 k.a) ∧ w'.cell? ⟨bk, 1, none⟩ = some (.int .i64 k.b) ∧ w'.cell? ⟨bk, 2, none⟩ = some (.int .i64 k.c) ∧ w'.cell? ⟨bk, 3, none⟩ = some (.int .i64 k.d) ∧ w'.cell? ⟨bk, 4, none⟩ = some (.int .i64 k.w) ∧ w'.cell? ⟨bk, 5, none⟩ = some (.int .i64 k.s) ∧ w'.cell? ⟨gt, 0, none⟩ = some (.bool st) ∧ w'.cell? ⟨gt, 1, none⟩ = some (.int .i64 f) ∧ w'.cell? ⟨gt, 2, none⟩ = some (.bool false)) (ds := []) #[false, false, false, false, false, false, false, false, false] (by kernel_rfl) rfl rfl ⟨(blk_cell HJ.out.bs 0).trans rfl, (blk_cell HJ.out.bk 0).trans rfl, (blk_cell HJ.out.bk 1).trans rfl, (blk_cell HJ.out.bk 2).trans rfl, (blk_cell HJ.out.bk 3).trans rfl, (blk_cell HJ.out.bk 4).trans rfl, (blk_cell HJ.out.bk 5).trans rfl, (blk_cell KT.out 0).trans rfl, (blk_cell KT.out 1).trans rfl, (blk_cell KT.out 2).trans rfl⟩ (fun hHeld => ?_)
  refine take_ (i := 0) (N := some 5) (v := ?_) (a' := ?_) #[true, false, false, false, false, false, false, false, false] rfl rfl (by kernel_rfl) (fun _ _ _ h => h) (Or.inl ⟨by rfl, ?_⟩) hHeld ?_ ?_
  rotate_left
  · rintro w' ⟨s0, s1, s2, s3, s4, s5, s6, s7, s8, s9⟩
    go_simp
    with_reducible rfl
  rotate_left
  · simp only [Act.put, List.setIfInBounds_toArray, List.set_cons_zero, List.set_cons_succ, i64_w, i32_w]
    rfl
  refine take_ (i := 1) (N := some 6) (v := ?_) (a' := ?_) #[true, true, false, false, false, false, false, false, false] rfl rfl (by kernel_rfl) (fun _ _ _ h => h) (Or.inl ⟨by rfl, ?_⟩) hHeld ?_ ?_
  rotate_left
  · rintro w' ⟨s0, s1, s2, s3, s4, s5, s6, s7, s8, s9⟩
    go_simp
    with_reducible rfl
  rotate_left
  · simp only [Act.put, List.setIfInBounds_toArray, List.set_cons_zero, List.set_cons_succ, i64_w, i32_w]
    rfl
  refine take_ (i := 2) (N := some 7) (v := ?_) (a' := ?_) #[true, true, true, false, false, false, false, false, false] rfl rfl (by kernel_rfl) (fun _ _ _ h => h) (Or.inl ⟨by rfl, ?_⟩) hHeld ?_ ?_
  rotate_left
  · rintro w' ⟨s0, s1, s2, s3, s4, s5, s6, s7, s8, s9⟩
    go_simp
    with_reducible rfl
  rotate_left
  · simp only [Act.put, List.setIfInBounds_toArray, List.set_cons_zero, List.set_cons_succ, i64_w, i32_w]
    rfl
  refine take_ (i := 4) (N := some 9) (v := ?_) (a' := ?_) #[true, true, true, false, true, false, false, false, false] rfl rfl (by kernel_rfl) (fun _ _ _ h => h) (Or.inl ⟨by rfl, ?_⟩) hHeld ?_ ?_
  rotate_left
  · rintro w' ⟨s0, s1, s2, s3, s4, s5, s6, s7, s8, s9⟩
    go_simp
    with_reducible rfl
  rotate_left
  · simp only [Act.put, List.setIfInBounds_toArray, List.set_cons_zero, List.set_cons_succ, i64_w, i32_w]
    rfl
  refine take_ (i := 5) (N := some 10) (v := ?_) (a' := ?_) #[true, true, true, false, true, true, false, false, false] rfl rfl (by kernel_rfl) (fun _ _ _ h => h) (Or.inl ⟨by rfl, ?_⟩) hHeld ?_ ?_
  rotate_left
  · rintro w' ⟨s0, s1, s2, s3, s4, s5, s6, s7, s8, s9⟩
    go_simp
    with_reducible rfl
  rotate_left
  · simp only [Act.put, List.setIfInBounds_toArray, List.set_cons_zero, List.set_cons_succ, i64_w, i32_w]
    rfl
  refine one_ (i := 3) (N := some 8) #[true, true, true, true, true, true, false, false, false] rfl rfl (by kernel_rfl) (by decide) (fun K hK => ?_)
  refine goes_ Try.func31 (by kernel_rfl) rfl #[.pointer (some ⟨gs, 0, none⟩), .agg #[.int .i64 k.a, .int .i64 k.b, .int .i64 k.c, .int .i64 k.d, .int .i64 k.w, .int .i64 k.s], .agg #[.bool st, .int .i64 f, .bool false]] (by rfl) rfl rfl (by (try simp only [List.map_toArray, List.map_cons, List.map_nil]); first | done | rfl) ?_
  with_reducible refine (HW.out _ HJ.out).mono ?_
  rintro e_ w4 ⟨rfl, hj_, hk_⟩
  refine ⟨_, rfl, ?_⟩
  have n1_ := Aside0.mk hj_
  have n2_ := Aside0.mk (blk_kept KT.out hk_.one NT.out)
  clear HJ KT hj_ hk_
  have HJ := n1_
  have KT := n2_
  clear n1_ n2_
  refine hK.out _ _ ⟨(blk_cell HJ.out.bs 0).trans rfl, (blk_cell HJ.out.bk 0).trans rfl, (blk_cell HJ.out.bk 1).trans rfl, (blk_cell HJ.out.bk 2).trans rfl, (blk_cell HJ.out.bk 3).trans rfl, (blk_cell HJ.out.bk 4).trans rfl, (blk_cell HJ.out.bk 5).trans rfl, (blk_cell KT.out 0).trans rfl, (blk_cell KT.out 1).trans rfl, (blk_cell KT.out 2).trans rfl⟩ (fun hHeld => ?_)
  clear hK K
  refine norm_ (a' := ?_) ?_ ?_
  rotate_left
  · show Act.put _ (some 8) _ = _
    simp only [Act.put, List.setIfInBounds_toArray, List.set_cons_zero, List.set_cons_succ, i64_w, i32_w]
    rfl
  refine one_ (i := 6) (N := some 11) #[true, true, true, true, true, true, true, false, false] rfl rfl (by kernel_rfl) (by decide) (fun K hK => ?_)
  refine goes_ Try.func18 (by kernel_rfl) rfl #[.pointer (some ⟨gs, 0, none⟩), .agg #[.int .i64 k.a, .int .i64 k.b, .int .i64 k.c, .int .i64 k.d, .int .i64 k.w, .int .i64 k.s]] (by rfl) rfl rfl (by (try simp only [List.map_toArray, List.map_cons, List.map_nil]); first | done | rfl) ?_
  with_reducible refine (HL.out _ HJ.out).mono ?_
  rintro e_ w5 ⟨rfl, hj_, hk_⟩
  refine ⟨_, rfl, ?_⟩
  have n1_ := Aside0.mk hj_
  have n2_ := Aside0.mk (blk_kept KT.out hk_.one NT.out)
  clear HJ KT hj_ hk_
  have HJ := n1_
  have KT := n2_
  clear n1_ n2_
  refine hK.out _ _ ⟨(blk_cell HJ.out.bs 0).trans rfl, (blk_cell HJ.out.bk 0).trans rfl, (blk_cell HJ.out.bk 1).trans rfl, (blk_cell HJ.out.bk 2).trans rfl, (blk_cell HJ.out.bk 3).trans rfl, (blk_cell HJ.out.bk 4).trans rfl, (blk_cell HJ.out.bk 5).trans rfl, (blk_cell KT.out 0).trans rfl, (blk_cell KT.out 1).trans rfl, (blk_cell KT.out 2).trans rfl⟩ (fun hHeld => ?_)
  clear hK K
  refine norm_ (a' := ?_) ?_ ?_
  rotate_left
  · show Act.put _ (some 11) _ = _
    simp only [Act.put, List.setIfInBounds_toArray, List.set_cons_zero, List.set_cons_succ, i64_w, i32_w]
    rfl
  refine pure_ (i := 7) (N := some 12) (v := ?_) (a' := ?_) #[true, true, true, true, true, true, true, true, false] rfl rfl (by kernel_rfl) (fun _ _ _ h => h) (Or.inl ⟨by rfl, ?_⟩) ?_ ?_
  rotate_left
  · intro w'
    go_simp
    with_reducible rfl
  rotate_left
  · simp only [Act.put, List.setIfInBounds_toArray, List.set_cons_zero, List.set_cons_succ, i64_w, i32_w]
    rfl
  refine pure_ (i := 8) (N := some 4) (v := ?_) (a' := ?_) #[true, true, true, true, true, true, true, true, true] rfl rfl (by kernel_rfl) (fun _ _ _ h => h) (Or.inl ⟨by rfl, ?_⟩) ?_ ?_
  rotate_left
  · intro w'
    go_simp
    with_reducible rfl
  rotate_left
  · simp only [Act.put, List.setIfInBounds_toArray, List.set_cons_zero, List.set_cons_succ, i64_w, i32_w]
    rfl
  refine done_ (by kernel_rfl) ?_
  go_wp2
  go_ret
  exact ⟨rfl, HJ.out⟩
set_option maxHeartbeats 8000000 in
set_option maxRecDepth 100000 in
theorem first_calls (al : Bool) (k : KSt) (hk : KOk k) (gs mb : Nat) (W : World) (j : Nat) (hj : j < (kTests k).length) (hjv : kW al k ((kTests k).getD j (false, 0)) = kVal al k) (hjb : ∀ i, i < j → kW al k ((kTests k).getD i (false, 0)) ≠ kVal al k) (hne : gs ≠ mb) (hS : W.heap[gs]? = some (.cells #[.bool al, .map (some mb)] 52 (0, 0))) (hM : Memo al W mb 0) :
    Calls Try.prog 21 #[.pointer (some ⟨gs, 0, none⟩), .agg #[.int .i64 k.a, .int .i64 k.b, .int .i64 k.c, .int .i64 k.d, .int .i64 k.w, .int .i64 k.s]] W fun e w' => e = .returned (.agg #[.bool ((kTests k).getD j (false, 0)).1, .int .i64 ((kTests k).getD j (false, 0)).2, .bool false]) ∧ KeptM W w' mb := by
  obtain ⟨D, hD⟩ : ∃ D, D = 2 * kT 12 + kT 13 := ⟨_, rfl⟩
  have hDb : 12 * D ≤ 2000000000000000000 := by rw [hD]; decide
  obtain ⟨n_, hl⟩ : ∃ n_, (kTests k).length = n_ := ⟨_, rfl⟩
  have HL : Aside0 ((kTs (kTests k)).length = n_) := ⟨by rw [kTs_len]; exact hl⟩
  have hn12 : n_ ≤ 12 := by rw [← hl]; exact kTests_le k hk
  rw [hl] at hj
  obtain ⟨tt, htt⟩ : ∃ tt : Nat → Bool × Int, tt = fun i => (kTests k).getD i (false, 0) := ⟨_, rfl⟩
  have HTT := Aside0.mk htt
  have HIX : Aside0 (∀ (A_ : Option Addr) (c_ bs bk : Nat) (w3 : World), bs ≠ mb → bk ≠ mb → Aside0 (∀ (wr : World), Kept w3 wr (fun k_ => k_ = mb) → ∀ i, i < n_ → ∃ g, A_ = some ⟨g, 0, none⟩ ∧ wr.cell? ⟨g, i * 3, none⟩ = some (.bool (tt i).1) ∧ wr.cell? ⟨g, i * 3 + 1, none⟩ = some (.int .i64 (tt i).2) ∧ wr.cell? ⟨g, i * 3 + 2, none⟩ = some (.bool false)) → KJ al k gs mb bs bk w3 W 0 w3 → Calls Try.prog 32 #[.slice A_ n_ c_, .func (.func 33) #[] #[.pointer (some ⟨bs, 0, none⟩), .pointer (some ⟨bk, 0, none⟩)]] w3 fun e w' => e = .returned (.int .i64 j) ∧ ∃ c, KJ al k gs mb bs bk w3 W c w') := ⟨fun A_ c_ bs bk w3 h1 h2 h3 h4 => by
    refine (kIndex_calls 33 #[.pointer (some ⟨bs, 0, none⟩), .pointer (some ⟨bk, 0, none⟩)] tt (fun t => kW al k t == kVal al k) A_ n_ c_ j w3 (fun i Wi => i ≤ n_ ∧ KJ al k gs mb bs bk w3 W (i * D) Wi) hj hn12 (enters_ Try.func33 (by kernel_rfl) rfl) (fun i Wi hi hin => h3.out Wi hi.2.row i hin) ?_ ?_ ?_ ?_).mono ?_
    · intro i Wi hi hin
      have hmem : tt i ∈ kTests k := by rw [htt]; exact getD_mem' _ _ (by omega)
      have hmul : (i + 1) * D ≤ 12 * D := Nat.mul_le_mul_right _ (by omega)
      have hs : (i + 1) * D = i * D + D := Nat.succ_mul i D
      refine (firstC_calls al k hk gs mb bs bk (i * D) w3 W Wi (tt i).1 (tt i).2 hmem (by omega) hne h1 h2 hi.2).mono ?_
      rintro e_ w_ ⟨rfl, hj_⟩
      refine ⟨rfl, by omega, ?_⟩
      rw [show (i + 1) * D = i * D + 2 * kT 12 + kT 13 by omega]
      exact hj_
    · show (kW al k (tt j) == kVal al k) = true
      rw [beq_iff_eq, htt]; exact hjv
    · intro i hi
      show (kW al k (tt i) == kVal al k) = false
      rw [beq_eq_false_iff_ne, htt]; exact hjb i hi
    · exact ⟨Nat.zero_le _, by rw [Nat.zero_mul]; exact h4⟩
    · rintro e_ w_ ⟨rfl, _, hj_⟩
      exact ⟨rfl, _, hj_⟩⟩
  have HTS := Aside0.mk (fun (W : World) => impl_knowledge_tests.calls 200 k.a k.b k.c k.d k.w k.s _ W (tests_is k hk))
  have hgo : (kTests k).getD j (false, 0) = tt j := by rw [htt]
  rw [hgo]
  obtain ⟨⟨st, f⟩, htj⟩ : ∃ tj : Bool × Int, tt j = tj := ⟨_, rfl⟩
  rw [htj]
  have HTJ := Aside0.mk htj
  clear htj
  simp only
  have hjz : (j : Int) < (n_ : Int) := by omega
  have HJN := Aside0.mk hj
  have HM := Aside0.mk hM
  have KS := Aside0.mk hS
  have NS := Aside0.mk hne
  have HKp := Aside0.mk (KeptM.refl W mb)
  clear hD hDb hl hn12 htt hjv hjb hgo hM hS hne hk hj
  go_enter Try.func21, Try.ntmps21
  go_wp2_with (first
    | ((with_reducible refine gate_dst (N := 2) rfl ?_); refine box_event ?hg (N := 2) ?hd (cs := #[.pointer (some ⟨gs, 0, none⟩)]) (t := 33) ?hr ?_; (case hd => rfl); (case hg => rfl); (case hr => first | (go_simp; done) | (go_simp; rfl)); intro b2 hg w2 hbox hb; have NB2 := Aside0.mk (show b2 ≠ mb by intro he; have h1_ := Memo.lt HM.out; omega); have n1_ := Aside0.mk (Memo.below HM.out hb); have n2_ := Aside0.mk (HKp.out.below hb); have n3_ := Aside0.mk (blk_below KS.out hb); clear HM KS HKp; have HM := n1_; have HKp := n2_; have KS := n3_; clear n1_ n2_ n3_; have B2 := Aside0.mk hbox; have hs0 : w2.cell? ⟨b2, 0, none⟩ = some (.pointer (some ⟨gs, 0, none⟩)) := (blk_cell B2.out 0).trans rfl; clear hg hbox hb)
    | ((with_reducible refine gate_dst (N := 3) rfl ?_); refine box_event ?hg (N := 3) ?hd (cs := #[.int .i64 k.a, .int .i64 k.b, .int .i64 k.c, .int .i64 k.d, .int .i64 k.w, .int .i64 k.s]) (t := 37) ?hr ?_; (case hd => rfl); (case hg => rfl); (case hr => first | (go_simp; done) | (go_simp; rfl)); intro b3 hg w2 hbox hb; have NB3 := Aside0.mk (show b3 ≠ mb by intro he; have h1_ := Memo.lt HM.out; omega); have n1_ := Aside0.mk (Memo.below HM.out hb); have n2_ := Aside0.mk (HKp.out.below hb); have n3_ := Aside0.mk (blk_below KS.out hb); clear HM KS HKp; have HM := n1_; have HKp := n2_; have KS := n3_; clear n1_ n2_ n3_; have n1_ := Aside0.mk (blk_below B2.out hb); clear B2; have B2 := n1_; clear n1_; have B3 := Aside0.mk hbox; clear hs0; have hs0 : w2.cell? ⟨b2, 0, none⟩ = some (.pointer (some ⟨gs, 0, none⟩)) := (blk_cell B2.out 0).trans rfl; have hb0 : (w2).cell? ⟨b3, 0, none⟩ = some (.int .i64 k.a) := (blk_cell B3.out 0).trans rfl; have hb1 : (w2).cell? ⟨b3, 1, none⟩ = some (.int .i64 k.b) := (blk_cell B3.out 1).trans rfl; have hb2 : (w2).cell? ⟨b3, 2, none⟩ = some (.int .i64 k.c) := (blk_cell B3.out 2).trans rfl; have hb3 : (w2).cell? ⟨b3, 3, none⟩ = some (.int .i64 k.d) := (blk_cell B3.out 3).trans rfl; have hb4 : (w2).cell? ⟨b3, 4, none⟩ = some (.int .i64 k.w) := (blk_cell B3.out 4).trans rfl; have hb5 : (w2).cell? ⟨b3, 5, none⟩ = some (.int .i64 k.s) := (blk_cell B3.out 5).trans rfl; clear hg hbox hb)
    | ((with_reducible refine gate_dst (N := 4) rfl ?_); refine box_event ?hg (N := 4) ?hd (cs := #[.bool false, .int .i64 0, .bool false]) (t := 42) ?hr ?_; (case hd => rfl); (case hg => rfl); (case hr => first | (go_simp; done) | (go_simp; rfl)); intro b4 hg w2 hbox hb; have HKq := HKp; have NB4 := Aside0.mk (show b4 ≠ mb by intro he; have h1_ := Memo.lt HM.out; omega); have n1_ := Aside0.mk (Memo.below HM.out hb); have n2_ := Aside0.mk (HKp.out.below hb); have n3_ := Aside0.mk (blk_below KS.out hb); clear HM KS HKp; have HM := n1_; have HKp := n2_; have KS := n3_; clear n1_ n2_ n3_; have n1_ := Aside0.mk (blk_below B2.out hb); clear B2; have B2 := n1_; clear n1_; have n1_ := Aside0.mk (blk_below B3.out hb); clear B3; have B3 := n1_; clear n1_; have B4 := Aside0.mk hbox; have GB4 := Aside0.mk (show W.heap.size ≤ b4 by rw [hg]; exact HKq.out.size); clear HKq; clear hs0 hb0 hb1 hb2 hb3 hb4 hb5; have hs0 : w2.cell? ⟨b2, 0, none⟩ = some (.pointer (some ⟨gs, 0, none⟩)) := (blk_cell B2.out 0).trans rfl; have hb0 : (w2).cell? ⟨b3, 0, none⟩ = some (.int .i64 k.a) := (blk_cell B3.out 0).trans rfl; have hb1 : (w2).cell? ⟨b3, 1, none⟩ = some (.int .i64 k.b) := (blk_cell B3.out 1).trans rfl; have hb2 : (w2).cell? ⟨b3, 2, none⟩ = some (.int .i64 k.c) := (blk_cell B3.out 2).trans rfl; have hb3 : (w2).cell? ⟨b3, 3, none⟩ = some (.int .i64 k.d) := (blk_cell B3.out 3).trans rfl; have hb4 : (w2).cell? ⟨b3, 4, none⟩ = some (.int .i64 k.w) := (blk_cell B3.out 4).trans rfl; have hb5 : (w2).cell? ⟨b3, 5, none⟩ = some (.int .i64 k.s) := (blk_cell B3.out 5).trans rfl; have hz0 : (w2).cell? ⟨b4, 0, none⟩ = some (.bool false) := (blk_cell B4.out 0).trans rfl; have hz1 : (w2).cell? ⟨b4, 1, none⟩ = some (.int .i64 0) := (blk_cell B4.out 1).trans rfl; have hz2 : (w2).cell? ⟨b4, 2, none⟩ = some (.bool false) := (blk_cell B4.out 2).trans rfl; clear hg hbox hb)
    | (go_at_call 30; with_reducible refine (HTS.out _).mono ?_; rintro e_ w3 ⟨v_, rfl, hr, hb⟩; obtain ⟨A_, c_, eo_⟩ := Kd.R_slice hr; rw [HL.out] at eo_; subst eo_; have HROW0 := Aside0.mk (kRow_cells _ _ _ _ _ _ _ hr (Memo.lt HM.out)); have HROW : Aside0 (∀ (wr : World), Kept w3 wr (fun k_ => k_ = mb) → ∀ i, i < n_ → ∃ g, A_ = some ⟨g, 0, none⟩ ∧ wr.cell? ⟨g, i * 3, none⟩ = some (.bool (tt i).1) ∧ wr.cell? ⟨g, i * 3 + 1, none⟩ = some (.int .i64 (tt i).2) ∧ wr.cell? ⟨g, i * 3 + 2, none⟩ = some (.bool false)) := ⟨by rw [HTT.out]; exact HROW0.out⟩; have n1_ := Aside0.mk (Memo.below HM.out hb); have n2_ := Aside0.mk (HKp.out.below hb); have n3_ := Aside0.mk (blk_below KS.out hb); clear HM KS HKp; have HM := n1_; have HKp := n2_; have KS := n3_; clear n1_ n2_ n3_; have n1_ := Aside0.mk (blk_below B2.out hb); clear B2; have B2 := n1_; clear n1_; have n1_ := Aside0.mk (blk_below B3.out hb); clear B3; have B3 := n1_; clear n1_; have n1_ := Aside0.mk (blk_below B4.out hb); clear B4; have B4 := n1_; clear n1_; skip; have HJ := Aside0.mk (KJ.mk KS.out HM.out HKp.out (Kept.refl w3 _) B2.out B3.out); clear HROW0 HTS hr hb hb0 hb1 hb2 hb3 hb4 hb5 hs0 hz0 hz1 hz2)
    | (go_at_call 32; with_reducible refine (HIX.out _ _ _ _ _ NB2.out NB3.out HROW HJ.out).mono ?_; rintro e_ w5 ⟨rfl, cq_, hj_⟩; obtain ⟨ga, eA, hc0, hc1, hc2⟩ := HROW.out _ hj_.row j HJN.out; have n1_ := Aside0.mk (blk_kept B4.out hj_.row NB4.out); have n2_ := Aside0.mk hj_.kept; clear HM KS HKp B2 B3 B4 HJ HROW hj_; have B4 := n1_; have HKp := n2_; clear n1_ n2_; subst eA; rw [HTJ.out] at hc0 hc1; simp only at hc0 hc1; have hz0 : (w5).cell? ⟨b4, 0, none⟩ = some (.bool false) := (blk_cell B4.out 0).trans rfl; have hz1 : (w5).cell? ⟨b4, 1, none⟩ = some (.int .i64 0) := (blk_cell B4.out 1).trans rfl; have hz2 : (w5).cell? ⟨b4, 2, none⟩ = some (.bool false) := (blk_cell B4.out 2).trans rfl; skip)
    | ((with_reducible refine gate_store (t := 42) (p := 4) rfl ?_); have hfz0_ := blk_frozen B4.out 0; have hfz1_ := blk_frozen B4.out 1; have hfz2_ := blk_frozen B4.out 2; refine store_event (t := 42) (p := 4) (v := ?vo_) (w1 := (((w5.setCell ⟨b4, 0, none⟩ (.bool st)).setCell ⟨b4, 1, none⟩ (.int .i64 f)).setCell ⟨b4, 2, none⟩ (.bool false))) ?hg ?ho ?hn ?hr ?_; (case ho => rfl); (case hg => rfl); (case hn => rfl); (case hr => first | (go_simp; done) | (go_simp; rfl)); intro w6 hw; have n2_ : Aside0 (KeptM W w6 mb) := ⟨by rw [hw]; exact ((HKp.out.setCell (Or.inr GB4.out) _).setCell (Or.inr GB4.out) _).setCell (Or.inr GB4.out) _⟩; have n5_ : Aside0 (w6.heap[b4]? = some (.cells #[.bool st, .int .i64 f, .bool false] 42 (0, 0))) := ⟨by rw [hw]; exact store3 B4.out⟩; clear HKp B4 hw hfz0_ hfz1_ hfz2_ hz0 hz1 hz2; have HKp := n2_; have B4 := n5_; clear n2_ n5_; have ht0 : w6.cell? ⟨b4, 0, none⟩ = some (.bool st) := (blk_cell B4.out 0).trans rfl; have ht1 : w6.cell? ⟨b4, 1, none⟩ = some (.int .i64 f) := (blk_cell B4.out 1).trans rfl; have ht2 : w6.cell? ⟨b4, 2, none⟩ = some (.bool false) := (blk_cell B4.out 2).trans rfl))
  refine bodyPost_ret (results_cell_row rfl _ _ b4 42 #[.bool st, .int .i64 f, .bool false] (0, 0) _ rfl B4.out Try.underlying42 rfl (by kernel_rfl)) rfl ?_
  exact ⟨rfl, HKp.out⟩

end Go.Proofs.Yteboofglcnceoaa.PrintA
