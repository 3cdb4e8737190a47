-- written by this session's own driver (wip/gen.py) with the kit's print and contracts of our own
import Derived.Test.YtoldjcmokcgaiaaPrintA0
namespace Go.Proofs.Ytoldjcmokcgaiaa.PrintA
open Go.RowKit Go.Proofs.YtoldjcmokcgaiaaLib Go.Proofs.YtoldjcmokcgaiaaW.PrintWords Go.Proofs.YtoldjcmokcgaiaaW.PrintLast Go.Proofs.YtoldjcmokcgaiaaW.PrintMore
attribute [local go_sem] max2_int min2_int max_two min_two max_three min_three max_four min_four   -- for this text's walks alone
set_option linter.unusedVariables false
set_option linter.unusedSimpArgs false

/-! ### spec_hoTable: function 19, a contract of our own -/
-- LIB Houses
theorem hrep_set (n i : Nat) (hi : i < n) : (List.replicate i (-1) ++ List.replicate (n - i) 0 : List Int).set i (-1) = List.replicate (i + 1) (-1) ++ List.replicate (n - (i + 1)) 0 := by
  rw [List.set_append_right _ _ (by rw [List.length_replicate]; exact Nat.le_refl _), List.length_replicate, Nat.sub_self, show n - i = (n - (i + 1)) + 1 by omega, List.replicate_succ, List.set_cons_zero, List.replicate_succ', List.append_assoc]
  rfl
set_option maxHeartbeats 8000000 in
set_option maxRecDepth 100000 in
theorem hoTable_calls (w : World) : Calls Try.prog 19 #[] w fun e w' => ∃ g c, e = .returned (.slice (some ⟨g, 0, none⟩) 5103 c) ∧ Kd.R (Kd.int .i64) 3 w' w.heap.size (fun _ => True) (.slice (some ⟨g, 0, none⟩) 5103 c) hTab0 ∧ Below w.heap.size w w' := by
  have HB := Aside0.mk (Below.refl w.heap.size w)
  obtain ⟨y, hy⟩ : ∃ y : List Int, y = List.replicate (5103 : Int).toNat 0 := ⟨_, rfl⟩
  have Hy := Aside0.mk hy
  obtain ⟨n, hn⟩ : ∃ n, y.length = n := ⟨_, rfl⟩
  have hnn : n = 5103 := by rw [← hn, hy, List.length_replicate]; rfl
  have HN := Aside0.mk hn
  have hn1 : 0 < n := by omega
  have hn2 : n ≤ 5103 := by omega
  have HNN := Aside0.mk hnn
  have HY0 : Aside0 (y = List.replicate 0 (-1) ++ List.replicate (n - 0) 0) := ⟨by rw [hy, hnn]; rfl⟩
  have HRS := Aside0.mk (hrep_set n)
  have HLEN : Aside0 (∀ i, i ≤ n → (List.replicate i (-1) ++ List.replicate (n - i) 0 : List Int).length = n) := ⟨fun i hi => by rw [List.length_append, List.length_replicate, List.length_replicate]; omega⟩
  clear hy hn hnn
  go_enter Try.func19, Try.ntmps19
  go_wp2
  go_loopg [1, 2] 3 (fun gg v1 v2 wr => ∃ (i : Nat) (p : Int), v2 = .int .i64 i ∧ v1 = .int .i64 p ∧ ((i = 0 ∧ p = 7) ∨ (i = 1 ∧ p = 63) ∨ (i = 2 ∧ p = 567) ∨ (i = 3 ∧ p = 5103)) ∧ 3 - i ≤ gg ∧ Aside0 (Below w.heap.size w wr))
  case atStart => exact ⟨0, 7, rfl, rfl, Or.inl ⟨rfl, rfl⟩, Nat.le_refl _, HB⟩
  case round =>
    clear HB
    obtain ⟨i, p, rfl, rfl, hip, hgg, HB⟩ := hrel
    rcases hip with ⟨rfl, rfl⟩ | ⟨rfl, rfl⟩ | ⟨rfl, rfl⟩ | ⟨rfl, rfl⟩
    · go_wp2
      go_roundg 2
      case measure => omega
      case rel => exact ⟨1, 63, by go_num, by go_num, Or.inr (Or.inl ⟨rfl, rfl⟩), by omega, HB⟩
    · go_wp2
      go_roundg 1
      case measure => omega
      case rel => exact ⟨2, 567, by go_num, by go_num, Or.inr (Or.inr (Or.inl ⟨rfl, rfl⟩)), by omega, HB⟩
    · go_wp2
      go_roundg 0
      case measure => omega
      case rel => exact ⟨3, 5103, by go_num, by go_num, Or.inr (Or.inr (Or.inr ⟨rfl, rfl⟩)), by omega, HB⟩
    · skip
      go_wp2_with ((with_reducible refine gate_dst (N := 12) rfl ?_); refine Kd.R_make (Kd.int .i64) _ 3 rfl (N := 12) rfl 22 _ _ rfl 5103 rfl rfl Try.underlying22 (.int .i64 0) 8 info3 rfl (by decide) (by omega) 0 (ok := fun _ => True) (okp := fun _ => True) rfl (fun _ hk => hk) trivial (by decide) (by decide) (Below.refl _ _) (Nat.le_refl _) ?_; intro v_ w4 ho5 hb hg_ hnew_; clear hg_ hnew_; rw [← Hy.out] at ho5; have n0_ := Aside0.mk (Kd.R_lower ho5 (below_size HB.out)); have n1_ := Aside0.mk (below_step HB.out hb); clear HB hb ho5; have HO := n0_; have HB := n1_; clear n0_ n1_; obtain ⟨A_, c_, eo_⟩ := Kd.R_slice HO.out; rw [HN.out] at eo_; subst eo_)
      have hform := Kd.R_form HO.out (by rw [HN.out]; exact hn1)
      obtain ⟨g, c, hv, hg0, _⟩ := hform
      rw [HN.out] at hv
      obtain ⟨rfl, _, rfl⟩ := Value.slice.inj hv
      have HG := Aside0.mk hg0
      clear hv hg0
      go_loopg [4, 15] n (fun gg _ v15 wr => ∃ (i : Nat) (L : List Int), v15 = .int .i64 i ∧ i ≤ n ∧ n - i ≤ gg ∧ Aside0 (L = List.replicate i (-1) ++ List.replicate (n - i) 0) ∧ Aside0 (Kd.R (Kd.int .i64) 3 wr w.heap.size (fun _ => True) (.slice (some ⟨g, 0, none⟩) n c_) L) ∧ Aside0 (Below w.heap.size w wr))
      case atStart => exact ⟨0, y, rfl, Nat.zero_le _, Nat.le_refl _, HY0, HO, HB⟩
      case round =>
        clear HO HB
        obtain ⟨i, L, rfl, hi, hgg, HL, HO, HB⟩ := hrel
        by_cases hlt : i < n
        · have hltz : (i : Int) < (n : Int) := by omega
          obtain ⟨hx0, hf0⟩ := Kd.R_celln 0 HO.out (i : Int) (by omega) (by omega)
          have HP := Aside0.mk (Kd.R_putg HO.out (i : Int) (-1))
          rw [Int.toNat_natCast] at hx0 hf0 HP
          obtain ⟨L2, hL2⟩ : ∃ L2, L2 = L.set i (-1) := ⟨_, rfl⟩
          have HL2 : Aside0 (L2 = List.replicate (i + 1) (-1) ++ List.replicate (n - (i + 1)) 0) := ⟨by rw [hL2, HL.out, HRS.out i hlt]⟩
          rw [← hL2] at HP
          clear hL2 HL
          go_wp2
          go_roundg (n - (i + 1))
          case measure => omega
          case rel => exact ⟨i + 1, L2, by go_num, by omega, by omega, HL2, ⟨HP.out.1⟩, ⟨below_set HB.out HG.out⟩⟩
        · have hltz : ¬ (i : Int) < (n : Int) := by omega
          obtain rfl : i = n := by omega
          have hnn := HNN.out
          have hL : L = hTab0 := by rw [HL.out, hnn, Nat.sub_self, List.replicate_zero, List.append_nil]; rfl
          clear HL HLEN HRS HY0
          go_wp2
          go_ret
          subst hnn
          exact ⟨_, _, rfl, by rw [← hL]; exact HO.out, HB.out⟩

end Go.Proofs.Ytoldjcmokcgaiaa.PrintA
