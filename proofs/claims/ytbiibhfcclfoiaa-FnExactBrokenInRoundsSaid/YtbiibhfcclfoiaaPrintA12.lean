-- written by this session's own driver (wip/gen.py) with the kit's print and contracts of our own
import Derived.Test.YtbiibhfcclfoiaaPrintA0
import Derived.Test.YtbiibhfcclfoiaaPrintA8
import Derived.Test.YtbiibhfcclfoiaaPrintA11
namespace Go.Proofs.Ytbiibhfcclfoiaa.PrintA
open Go.RowKit Go.Proofs.YtbiibhfcclfoiaaLib Go.Proofs.YtbiibhfcclfoiaaW.PrintWords Go.Proofs.YtbiibhfcclfoiaaW.PrintLast Go.Proofs.YtbiibhfcclfoiaaW.PrintMore
attribute [local go_sem] max2_int min2_int max_two min_two max_three min_three max_four min_four   -- for this text's walks alone
set_option linter.unusedVariables false
set_option linter.unusedSimpArgs false

/-! ### slices_Concat_int_int: function 24, a contract of our own -/
def catS (l1 l2 l3 : List Int) : Nat → List Int
  | 0 => []
  | 1 => l1
  | 2 => l1 ++ l2
  | _ => l1 ++ l2 ++ l3
def sumS (n1 n2 n3 : Nat) : Nat → Int
  | 0 => 0
  | 1 => n1
  | 2 => n1 + n2
  | _ => n1 + n2 + n3
set_option maxHeartbeats 8000000 in
set_option maxRecDepth 100000 in
theorem concat3 (g c : Nat) (A1 : Option Addr) (c1 : Nat) (l1 : List Int) (A2 : Option Addr) (c2 : Nat) (l2 : List Int) (A3 : Option Addr) (c3 : Nat) (l3 : List Int) (w : World)
    (hx1 : w.cell? ⟨g, 0, none⟩ = some (.slice A1 l1.length c1)) (hx2 : w.cell? ⟨g, 1, none⟩ = some (.slice A2 l2.length c2)) (hx3 : w.cell? ⟨g, 2, none⟩ = some (.slice A3 l3.length c3))
    (hC1 : Kd.C (Kd.int .i64) w A1 l1.length l1) (hC2 : Kd.C (Kd.int .i64) w A2 l2.length l2) (hC3 : Kd.C (Kd.int .i64) w A3 l3.length l3) (hl : l1.length + l2.length + l3.length ≤ 1000000) :
    Calls Try.prog 24 #[.slice (some ⟨g, 0, none⟩) 3 c] w fun e w' => ∃ v, e = .returned v ∧ Kd.R (Kd.int .i64) 3 w' w.heap.size (fun _ => True) v (l1 ++ l2 ++ l3) ∧ Below w.heap.size w w' := by
  have HR1 := Aside0.mk hC1
  have HR2 := Aside0.mk hC2
  have HR3 := Aside0.mk hC3
  have HX1 := Aside0.mk hx1
  have HX2 := Aside0.mk hx2
  have HX3 := Aside0.mk hx3
  have HB := Aside0.mk (Below.refl w.heap.size w)
  have HAL1 : Aside0 (([] : List Int).length + l1.length < 17592186044416) := ⟨by simp; omega⟩
  have HAL2 : Aside0 (l1.length + l2.length < 17592186044416) := ⟨by omega⟩
  have HAL3 : Aside0 ((l1 ++ l2).length + l3.length < 17592186044416) := ⟨by simp; omega⟩
  clear hC1 hC2 hC3
  generalize hn1 : l1.length = n1 at hx1 hl
  generalize hn2 : l2.length = n2 at hx2 hl
  generalize hn3 : l3.length = n3 at hx3 hl
  have HN1 := Aside0.mk hn1
  have HN2 := Aside0.mk hn2
  have HN3 := Aside0.mk hn3
  clear hn1 hn2 hn3
  have hs0 : (0 : Int) ≤ n1 := by omega
  have hs1 : (0 : Int) ≤ n1 + n2 := by omega
  have hs2 : (0 : Int) ≤ n1 + n2 + n3 := by omega
  have hs3 : (n1 : Int) + n2 + n3 ≤ 1000000 := by omega
  have hs4 : (n1 : Int) + n2 ≤ 1000000 := by omega
  have hs5 : (n1 : Int) ≤ 1000000 := by omega
  have hq0 : decide ((n1 : Int) < 0) = false := decide_eq_false (by omega)
  have hq1 : decide ((n1 : Int) + n2 < 0) = false := decide_eq_false (by omega)
  have hq2 : decide ((n1 : Int) + n2 + n3 < 0) = false := decide_eq_false (by omega)
  go_enter Try.func24, Try.ntmps24
  go_wp2
  go_loopg [3, 5, 11] 3 (fun gg v3 _ v11 wr => ∃ kk : Nat, kk ≤ 3 ∧ 3 - kk ≤ gg ∧ v11 = .int .i64 kk ∧ v3 = .int .i64 (sumS n1 n2 n3 kk) ∧ w = wr)
  case atStart => exact ⟨0, Nat.zero_le _, by omega, rfl, rfl, rfl⟩
  case round =>
    obtain ⟨kk, hkk, hg, rfl, rfl, rfl⟩ := hrel
    rcases (by omega : kk = 0 ∨ kk = 1 ∨ kk = 2 ∨ kk = 3) with rfl | rfl | rfl | rfl
    · simp only [sumS]
      go_wp2
      go_roundg 2
      case measure => omega
      case rel => exact ⟨1, by omega, by omega, by go_num, by simp [sumS], rfl⟩
    · simp only [sumS]
      go_wp2
      go_roundg 1
      case measure => omega
      case rel => exact ⟨2, by omega, by omega, by go_num, by simp [sumS], rfl⟩
    · simp only [sumS]
      go_wp2
      go_roundg 0
      case measure => omega
      case rel => exact ⟨3, by omega, by omega, by go_num, by simp [sumS], rfl⟩
    · simp only [sumS]
      go_wp2_with (go_at_call 35; refine (grow_nil _ _ hs2 (by omega)).mono ?_; rintro e w' ⟨A_, c_, rfl, hr, hb⟩; have HO := Aside0.mk hr; have HB := Aside0.mk hb; clear hr hb)
      clear hx1 hx2 hx3
      go_loopg [6, 8, 27] 3 (fun gg v6 _ v27 wr => ∃ kk : Nat, kk ≤ 3 ∧ 3 - kk ≤ gg ∧ v27 = .int .i64 kk ∧ Aside0 (Kd.R (Kd.int .i64) 3 wr w.heap.size (fun _ => True) v6 (catS l1 l2 l3 kk)) ∧ Aside0 (Below w.heap.size w wr))
      case atStart => exact ⟨0, Nat.zero_le _, by omega, rfl, HO, HB⟩
      case round =>
        clear HO HB
        obtain ⟨kk, hkk, hg, rfl, HO, HB⟩ := hrel
        rcases (by omega : kk = 0 ∨ kk = 1 ∨ kk = 2 ∨ kk = 3) with rfl | rfl | rfl | rfl
        · have hx := (HB.out.cell (World.block_lt_of_cell? w _ HX1.out)).trans HX1.out
          have HAL := HAL1
          go_wp2_with ((with_reducible refine gate_builtin (b := .append) (xs := #[.tmp 31, .tmp 32]) rfl ?_); at_builtin; refine Kd.R_append_rows (Kd.int .i64) (w0 := w) w.heap.size rfl (.tmp 31) (.tmp 32) 25 3 (.int .i64 0) 8 rfl Try.underlying25 info3 rfl (by decide) (by omega) _ (([] : List Int)) (l1) _ _ _ (fun _ => True) (fun _ => False) rfl rfl ?aO ?aR (fun _ _ h => h) (fun _ h => h.elim) ?aF ?aB ?aS ?aL ?_; (case aR => repeat (first | exact HR1.out | exact (Kd.C_below HR1.out HB.out) | (with_reducible refine Kd.C_alloc ?_ _) | (with_reducible refine Kd.C_drewN ?_ _) | (with_reducible refine Kd.C_drew ?_))); (case aB => exact (by repeat (first | (with_reducible first | exact HB.out | apply below_alloc | apply pw_below_drewN | apply below_drew1) | exact HB.out))); (case aF => exact (fun _ _ => trivial)); (case aO => exact (by (with_reducible repeat (first | apply Kd.R_alloc | apply Kd.R_drewN | apply Kd.R_drew)); exact HO.out)); (case aS => exact (below_size (by repeat (first | (with_reducible first | exact HB.out | apply below_alloc | apply pw_below_drewN | apply below_drew1) | exact HB.out)))); (case aL => have := HAL.out; omega); intro va_ wa_ ho hb hg hat; have HA_ := Aside0.mk ho; have HB_ := Aside0.mk hb; clear HB HO ho hb hg hat; have HB := HB_; clear HB_)
          go_roundg 2
          case measure => omega
          case rel => exact ⟨1, by omega, by omega, by go_num, ⟨HA_.out⟩, HB⟩
        · have hx := (HB.out.cell (World.block_lt_of_cell? w _ HX2.out)).trans HX2.out
          have HAL := HAL2
          go_wp2_with ((with_reducible refine gate_builtin (b := .append) (xs := #[.tmp 31, .tmp 32]) rfl ?_); at_builtin; refine Kd.R_append_rows (Kd.int .i64) (w0 := w) w.heap.size rfl (.tmp 31) (.tmp 32) 25 3 (.int .i64 0) 8 rfl Try.underlying25 info3 rfl (by decide) (by omega) _ (l1) (l2) _ _ _ (fun _ => True) (fun _ => False) rfl rfl ?aO ?aR (fun _ _ h => h) (fun _ h => h.elim) ?aF ?aB ?aS ?aL ?_; (case aR => repeat (first | exact HR2.out | exact (Kd.C_below HR2.out HB.out) | (with_reducible refine Kd.C_alloc ?_ _) | (with_reducible refine Kd.C_drewN ?_ _) | (with_reducible refine Kd.C_drew ?_))); (case aB => exact (by repeat (first | (with_reducible first | exact HB.out | apply below_alloc | apply pw_below_drewN | apply below_drew1) | exact HB.out))); (case aF => exact (fun _ _ => trivial)); (case aO => exact (by (with_reducible repeat (first | apply Kd.R_alloc | apply Kd.R_drewN | apply Kd.R_drew)); exact HO.out)); (case aS => exact (below_size (by repeat (first | (with_reducible first | exact HB.out | apply below_alloc | apply pw_below_drewN | apply below_drew1) | exact HB.out)))); (case aL => have := HAL.out; omega); intro va_ wa_ ho hb hg hat; have HA_ := Aside0.mk ho; have HB_ := Aside0.mk hb; clear HB HO ho hb hg hat; have HB := HB_; clear HB_)
          go_roundg 1
          case measure => omega
          case rel => exact ⟨2, by omega, by omega, by go_num, ⟨HA_.out⟩, HB⟩
        · have hx := (HB.out.cell (World.block_lt_of_cell? w _ HX3.out)).trans HX3.out
          have HAL := HAL3
          go_wp2_with ((with_reducible refine gate_builtin (b := .append) (xs := #[.tmp 31, .tmp 32]) rfl ?_); at_builtin; refine Kd.R_append_rows (Kd.int .i64) (w0 := w) w.heap.size rfl (.tmp 31) (.tmp 32) 25 3 (.int .i64 0) 8 rfl Try.underlying25 info3 rfl (by decide) (by omega) _ ((l1 ++ l2)) (l3) _ _ _ (fun _ => True) (fun _ => False) rfl rfl ?aO ?aR (fun _ _ h => h) (fun _ h => h.elim) ?aF ?aB ?aS ?aL ?_; (case aR => repeat (first | exact HR3.out | exact (Kd.C_below HR3.out HB.out) | (with_reducible refine Kd.C_alloc ?_ _) | (with_reducible refine Kd.C_drewN ?_ _) | (with_reducible refine Kd.C_drew ?_))); (case aB => exact (by repeat (first | (with_reducible first | exact HB.out | apply below_alloc | apply pw_below_drewN | apply below_drew1) | exact HB.out))); (case aF => exact (fun _ _ => trivial)); (case aO => exact (by (with_reducible repeat (first | apply Kd.R_alloc | apply Kd.R_drewN | apply Kd.R_drew)); exact HO.out)); (case aS => exact (below_size (by repeat (first | (with_reducible first | exact HB.out | apply below_alloc | apply pw_below_drewN | apply below_drew1) | exact HB.out)))); (case aL => have := HAL.out; omega); intro va_ wa_ ho hb hg hat; have HA_ := Aside0.mk ho; have HB_ := Aside0.mk hb; clear HB HO ho hb hg hat; have HB := HB_; clear HB_)
          go_roundg 0
          case measure => omega
          case rel => exact ⟨3, by omega, by omega, by go_num, ⟨HA_.out⟩, HB⟩
        · go_wp2
          go_ret
          exact ⟨_, rfl, HO.out, HB.out⟩

/-! ### impl_BrokenInRounds: function 10, a contract of our own -/
theorem rows_cells {w : World} {base n c : Nat} {ok : Nat → Prop} {A : Option Addr} {rows : List (List Int)} (h : Kd.R (Kd.slice 3 (Kd.int .i64)) 25 w base ok (.slice A n c) rows) (j : Nat) (hj : j < rows.length) :
    ∃ g A2 c2, A = some ⟨g, 0, none⟩ ∧ w.cell? ⟨g, j, none⟩ = some (.slice A2 (rows.getD j []).length c2) ∧ Kd.C (Kd.int .i64) w A2 (rows.getD j []).length (rows.getD j []) := by
  obtain ⟨g, cap, hv, _⟩ := Kd.R_form h (by omega)
  obtain ⟨rfl, rfl, rfl⟩ := Value.slice.inj hv
  obtain ⟨cl, hc1, hM, hcell, _⟩ := Kd.R_elem h [] (j : Int) (by omega) (by omega)
  rw [Int.toNat_natCast] at hM hcell
  obtain ⟨v, rfl, hr⟩ := (hM : ∃ v, cl = [v] ∧ Kd.R (Kd.int .i64) 3 w base _ v (rows.getD j []))
  obtain ⟨A2, c2, rfl, _, hC⟩ := Kd.R_reads hr
  have h0 := hcell 0 _ rfl
  have e1 : j * (Kd.slice 3 (Kd.int .i64)).sz + 0 = j := by show j * 1 + 0 = j; omega
  rw [e1] at h0
  exact ⟨g, A2, c2, rfl, h0, hC⟩
set_option maxHeartbeats 8000000 in
set_option maxRecDepth 100000 in
theorem concatN (A : Option Addr) (c : Nat) (rows : List (List Int)) (w : World)
    (hx : ∀ j, j < rows.length → ∃ g A2 c2, A = some ⟨g, 0, none⟩ ∧ w.cell? ⟨g, j, none⟩ = some (.slice A2 (rows.getD j []).length c2) ∧ Kd.C (Kd.int .i64) w A2 (rows.getD j []).length (rows.getD j []))
    (hl : rows.flatten.length ≤ 1000000) (hr : rows.length ≤ 1000) :
    Calls Try.prog 24 #[.slice A rows.length c] w fun e w' => ∃ v, e = .returned v ∧ Kd.R (Kd.int .i64) 3 w' w.heap.size (fun _ => True) v rows.flatten ∧ Below w.heap.size w w' := by
  have HX := Aside0.mk hx
  have HB := Aside0.mk (Below.refl w.heap.size w)
  have HFL := Aside0.mk (fun i => Nat.le_trans (flat_le rows i) hl)
  have HFT := Aside0.mk (flat_take rows)
  obtain ⟨n, hn⟩ : ∃ n, rows.length = n := ⟨_, rfl⟩
  rw [hn] at hr ⊢
  have HN := Aside0.mk hn
  clear hx hl hn
  go_enter Try.func24, Try.ntmps24
  go_wp2
  go_loopg [3, 5, 11] n (fun gg v3 _ v11 wr => ∃ (kk : Nat) (s : Nat), kk ≤ n ∧ n - kk ≤ gg ∧ v11 = .int .i64 kk ∧ v3 = .int .i64 s ∧ Aside0 (s = (rows.take kk).flatten.length) ∧ w = wr)
  case atStart => exact ⟨0, 0, Nat.zero_le _, by omega, rfl, rfl, ⟨rfl⟩, rfl⟩
  case round =>
    obtain ⟨kk, s, hkk, hg, rfl, rfl, HS, rfl⟩ := hrel
    have hs1 := HFL.out kk
    rw [← HS.out] at hs1
    by_cases hlt : kk < n
    · have hltz : (kk : Int) < (n : Int) := by omega
      obtain ⟨g, A2, c2, rfl, hx, _⟩ := HX.out kk (by rw [HN.out]; exact hlt)
      have hft := HFT.out kk (by rw [HN.out]; exact hlt)
      have hs2 := HFL.out (kk + 1)
      rw [hft, List.length_append, ← HS.out] at hs2
      have HS2 : Aside0 (s + (rows.getD kk []).length = (rows.take (kk + 1)).flatten.length) := ⟨by rw [hft, List.length_append, ← HS.out]⟩
      generalize (rows.getD kk []).length = m at hx hs2 HS2
      have hz1 : (0 : Int) ≤ (s : Int) + m := by omega
      have hz2 : (s : Int) + m ≤ 1000000 := by omega
      have hz3 : decide ((s : Int) + m < 0) = false := decide_eq_false (by omega)
      clear hft HS
      go_wp2
      go_roundg (n - (kk + 1))
      case measure => omega
      case rel => exact ⟨kk + 1, s + m, by omega, by omega, by go_num, by go_num, HS2, rfl⟩
    · have hltz : ¬ (kk : Int) < (n : Int) := by omega
      have hs3 : (0 : Int) ≤ (s : Int) := by omega
      have hs4 : (s : Int) ≤ 1000000000 := by omega
      clear HS
      go_wp2_with (go_at_call 35; refine (grow_nil _ _ hs3 hs4).mono ?_; rintro e w' ⟨A_, c_, rfl, hr, hb⟩; have HO := Aside0.mk hr; have HB := Aside0.mk hb; clear hr hb)
      go_loopg [6, 8, 27] n (fun gg v6 _ v27 wr => ∃ (kk : Nat) (L : List Int), kk ≤ n ∧ n - kk ≤ gg ∧ v27 = .int .i64 kk ∧ Aside0 (L = (rows.take kk).flatten) ∧ Aside0 (Kd.R (Kd.int .i64) 3 wr w.heap.size (fun _ => True) v6 L) ∧ Aside0 (Below w.heap.size w wr))
      case atStart => exact ⟨0, [], Nat.zero_le _, by omega, rfl, ⟨rfl⟩, HO, HB⟩
      case round =>
        clear HO HB
        obtain ⟨kk, L, hkk, hg, rfl, HL, HO, HB⟩ := hrel
        by_cases hlt : kk < n
        · have hltz : (kk : Int) < (n : Int) := by omega
          obtain ⟨g, A2, c2, rfl, hx0, hC⟩ := HX.out kk (by rw [HN.out]; exact hlt)
          have hx := (HB.out.cell (World.block_lt_of_cell? w _ hx0)).trans hx0
          have hft := HFT.out kk (by rw [HN.out]; exact hlt)
          have hs2 := HFL.out (kk + 1)
          rw [hft, List.length_append, ← HL.out] at hs2
          have HAL : Aside0 (L.length + (rows.getD kk []).length < 17592186044416) := ⟨by omega⟩
          obtain ⟨l2, hl2⟩ : ∃ l2, l2 = rows.getD kk [] := ⟨_, rfl⟩
          rw [← hl2] at hx hC HAL hft
          have HC := Aside0.mk hC
          rw [← HL.out] at hft
          obtain ⟨L2, hL2⟩ : ∃ L2, L2 = L ++ l2 := ⟨_, rfl⟩
          have HL2 : Aside0 (L2 = (rows.take (kk + 1)).flatten) := ⟨by rw [hL2, hft]⟩
          have Hy := Aside0.mk hL2
          clear hx0 hft hs2 hl2 hL2 hC hs1
          go_wp2_with ((with_reducible refine gate_builtin (b := .append) (xs := #[.tmp 31, .tmp 32]) rfl ?_); at_builtin; refine Kd.R_append_rows (Kd.int .i64) (w0 := w) w.heap.size rfl (.tmp 31) (.tmp 32) 25 3 (.int .i64 0) 8 rfl Try.underlying25 info3 rfl (by decide) (by omega) _ (L) (l2) _ _ _ (fun _ => True) (fun _ => False) rfl rfl ?aO ?aR (fun _ _ h => h) (fun _ h => h.elim) ?aF ?aB ?aS ?aL ?_; (case aR => repeat (first | exact (Kd.C_below HC.out HB.out) | (with_reducible refine Kd.C_alloc ?_ _) | (with_reducible refine Kd.C_drewN ?_ _) | (with_reducible refine Kd.C_drew ?_))); (case aB => exact (by repeat (first | (with_reducible first | exact HB.out | apply below_alloc | apply pw_below_drewN | apply below_drew1) | exact HB.out))); (case aF => exact (fun _ _ => trivial)); (case aO => exact (by (with_reducible repeat (first | apply Kd.R_alloc | apply Kd.R_drewN | apply Kd.R_drew)); exact HO.out)); (case aS => exact (below_size (by repeat (first | (with_reducible first | exact HB.out | apply below_alloc | apply pw_below_drewN | apply below_drew1) | exact HB.out)))); (case aL => have := HAL.out; omega); intro va_ wa_ ho hb hg hat; have HA_ := Aside0.mk ho; have HB_ := Aside0.mk hb; clear HB HO ho hb hg hat; have HB := HB_; clear HB_)
          go_roundg (n - (kk + 1))
          case measure => omega
          case rel => exact ⟨kk + 1, L2, by omega, by omega, by go_num, HL2, ⟨by rw [Hy.out]; exact HA_.out⟩, HB⟩
        · have hltz : ¬ (kk : Int) < (n : Int) := by omega
          have hL : L = rows.flatten := by rw [HL.out, List.take_of_length_le (by rw [HN.out]; omega)]
          clear HL
          go_wp2
          go_ret
          exact ⟨_, rfl, by rw [← hL]; exact HO.out, HB.out⟩
def impl_BrokenInRounds.f (a0 a1 a2 a3 : Int) : Option (Int × Bool) := some (if rguard a0 a1 a2 a3 = true then (totA a3 (rplay a0 a1 a2 a3) : Int) else 0, rguard a0 a1 a2 a3)
set_option maxHeartbeats 8000000 in
set_option maxRecDepth 100000 in
theorem impl_BrokenInRounds.calls (a0 a1 a2 a3 : Int) (r1 : Int) (r2 : Bool) (w : World) (h : impl_BrokenInRounds.f a0 a1 a2 a3 = some (r1, r2)) :
    Calls Try.prog 10 #[.int .i64 a0, .int .i64 a1, .int .i64 a2, .int .i64 a3] w fun e w' => e = .returned (.tuple #[.int .i64 r1, .bool r2]) ∧ Below w.heap.size w w' := by
  unfold impl_BrokenInRounds.f at h
  obtain ⟨hq1, hq2⟩ := Prod.mk.inj (Option.some.inj h)
  subst hq2
  have hP := impl_PlayRounds.calls a0 a1 a2 a3 _ _ w rfl
  obtain ⟨rows, hrows⟩ : ∃ rows, rows = (if rguard a0 a1 a2 a3 = true then rplay a0 a1 a2 a3 else []) := ⟨_, rfl⟩
  rw [← hrows] at hP
  have hlen : rows.length ≤ 1000 := by
    rw [hrows]; split
    · exact playR_len _ _ _ _ _ _
    · simp
  have hfl : rows.flatten.length ≤ 1000000 := by
    rw [hrows]; split
    · rename_i hgd
      obtain ⟨e, hn, rfl, rfl, he1, he2, hh1, hh2, hp, hpl⟩ := rguard_true hgd
      rw [hpl]
      exact Nat.le_trans (playR_flat _ _ _ _ _ _ he2) (by omega)
    · simp
  have hr1 : r1 = (cntA a3 rows.flatten : Nat) := by
    rw [totA_flat, hrows, ← hq1]
    split <;> rfl
  have HP : Aside0 (Calls Try.prog 17 #[.int .i64 a0, .int .i64 a1, .int .i64 a2, .int .i64 a3] w fun e w' => ∃ (A : Option Addr) (n c : Nat), e = .returned (.tuple #[.slice A n c, .bool (rguard a0 a1 a2 a3)]) ∧ Below w.heap.size w w' ∧ Calls Try.prog 24 #[.slice A n c] w' fun e w2 => ∃ v, e = .returned v ∧ Kd.R (Kd.int .i64) 3 w2 w'.heap.size (fun _ => True) v rows.flatten ∧ Below w'.heap.size w' w2) := ⟨hP.mono (by
    rintro e w' ⟨v, rfl, hr, hb⟩
    obtain ⟨A, c, rfl⟩ := Kd.R_slice hr
    exact ⟨A, _, c, rfl, hb, concatN A c rows w' (fun j hj => rows_cells hr j hj) hfl hlen⟩)⟩
  have hab : impl_above.f 2000000 rows.flatten a3 = some r1 := by rw [hr1]; exact above_is _ _ hfl 2000000 (by omega)
  have HA : Aside0 (∀ (W : World) (base : Nat) (v : Value), Kd.R (Kd.int .i64) 3 W base (fun _ => True) v rows.flatten → ∃ A n c, v = .slice A n c ∧ Calls Try.prog 23 #[.slice A n c, .int .i64 a3] W fun e' w' => e' = .returned (.int .i64 r1) ∧ Drawn0 W w') := ⟨fun W base v hr => by
    obtain ⟨A, c, rfl⟩ := Kd.R_slice hr
    exact ⟨A, _, c, rfl, impl_above.calls 2000000 A c _ a3 _ W (Kd.R_reads' hr).2.2 (Kd.R_reads' hr).2.1 hab⟩⟩
  clear hP hq1 h hrows hlen hfl hr1 hab
  generalize rguard a0 a1 a2 a3 = b at HP
  generalize rows.flatten = fl at HP HA
  go_enter Try.func10, Try.ntmps10
  go_wp2_with (first
    | (go_at_call 17; refine (HP.out).mono ?_; rintro e_ w2 ⟨A, n, c, rfl, hb, hc⟩; have HB := Aside0.mk hb; have HC := Aside0.mk hc; clear hb hc)
    | (go_at_call 24; refine (HC.out).mono ?_; rintro e_ w3 ⟨v, rfl, hr, hb⟩; have n0_ := Aside0.mk (below_step HB.out hb); clear HB; have HB := n0_; obtain ⟨A2, n2, c2, rfl, hab⟩ := HA.out _ _ _ hr; have HAB := Aside0.mk hab; clear hr hb n0_ hab)
    | (go_at_call 23; refine (HAB.out).mono ?_; rintro e_ w_ ⟨rfl, ⟨nd, rfl⟩⟩; have n0_ := Aside0.mk (pw_below_drewN HB.out nd); clear HB; have HB := n0_; clear n0_))
  go_ret2
  exact ⟨rfl, HB.out⟩


/-! ### laws_FnExactBrokenInRounds: function 4, a law -/
/-- THE ONE PURE STATEMENT of laws_FnExactBrokenInRounds. -/
def laws_FnExactBrokenInRounds.Pure : Prop := ∀ (a0 : Int) (a1 : Int) (a2 : Int) (a3 : Int), (Lit.int .i64 a0).wf = true → (Lit.int .i64 a1).wf = true → (Lit.int .i64 a2).wf = true → (Lit.int .i64 a3).wf = true → ∃ (r1 : Int) (r2 : Bool), spec_BrokenInRounds.f a0 a1 a2 a3 = some (r1, r2) ∧ impl_BrokenInRounds.f a0 a1 a2 a3 = some (r1, r2)
set_option maxHeartbeats 8000000 in
set_option maxRecDepth 100000 in
theorem laws_FnExactBrokenInRounds.alike (a0 : Int) (a1 : Int) (a2 : Int) (a3 : Int) (r1 : Int) (r2 : Bool) (w : World)  (hs : spec_BrokenInRounds.f a0 a1 a2 a3 = some (r1, r2)) (hi : impl_BrokenInRounds.f a0 a1 a2 a3 = some (r1, r2)) :
    Calls Try.prog 4 #[.int .i64 a0, .int .i64 a1, .int .i64 a2, .int .i64 a3] w fun e w' => e = .returned (.bool true) ∧ Below w.heap.size w w' := by
  have HS := Aside0.mk hs
  have HI := Aside0.mk hi
  clear hs hi
  have HB := Aside0.mk (Below.refl w.heap.size w)
  go_enter Try.func4, Try.ntmps4
  go_wp2_with fail
  refine (spec_BrokenInRounds.calls a0 a1 a2 a3 r1 r2 _  HS.out).mono ?_
  rintro e w1_ ⟨rfl, hb⟩
  have HB0 : Aside0 (w.heap.size ≤ w.heap.size) := ⟨HB.out.size⟩
  have HZ1 : Aside0 (w.heap.size ≤ w1_.heap.size) := ⟨hb.size⟩
  have HB_ := Aside0.mk (below_step HB.out hb)
  clear HB hb
  have HB := HB_
  clear HB_
  clear HB0
  go_wp2_with fail
  refine (impl_BrokenInRounds.calls a0 a1 a2 a3 r1 r2 _  HI.out).mono ?_
  rintro e w2_ ⟨rfl, hb⟩
  have HB0 : Aside0 (w.heap.size ≤ w1_.heap.size) := ⟨HB.out.size⟩
  have HZ2 : Aside0 (w1_.heap.size ≤ w2_.heap.size) := ⟨hb.size⟩
  have HB_ := Aside0.mk (below_step HB.out hb)
  clear HB hb
  have HB := HB_
  clear HB_
  clear HB0
  go_wp2
  go_ret
  exact ⟨rfl, HB.out⟩
set_option maxHeartbeats 4000000 in
set_option maxRecDepth 100000 in
theorem laws_FnExactBrokenInRounds.walk (P : laws_FnExactBrokenInRounds.Pure) (a0 : Int) (a1 : Int) (a2 : Int) (a3 : Int) (w : World) (w0 : (Lit.int .i64 a0).wf = true) (w1 : (Lit.int .i64 a1).wf = true) (w2 : (Lit.int .i64 a2).wf = true) (w3 : (Lit.int .i64 a3).wf = true) :
    Calls Try.prog 4 #[.int .i64 a0, .int .i64 a1, .int .i64 a2, .int .i64 a3] w fun e w' => e = .returned (.bool true) ∧ Below w.heap.size w w' := by
  obtain ⟨r1, r2, hs, hi⟩ := P a0 a1 a2 a3 w0 w1 w2 w3
  exact laws_FnExactBrokenInRounds.alike  a0 a1 a2 a3 r1 r2 w  hs hi


end Go.Proofs.Ytbiibhfcclfoiaa.PrintA
