-- written by this session's own driver (wip/gen.py) with the kit's print and contracts of our own
import Derived.Test.YtbiibhfcclfoiaaPrintA0
import Derived.Test.YtbiibhfcclfoiaaPrintA2
import Derived.Test.YtbiibhfcclfoiaaPrintA3
import Derived.Test.YtbiibhfcclfoiaaPrintA8
namespace Go.Proofs.Ytbiibhfcclfoiaa.PrintA
open Go.RowKit Go.Proofs.YtbiibhfcclfoiaaLib Go.Proofs.YtbiibhfcclfoiaaW.PrintWords Go.Proofs.YtbiibhfcclfoiaaW.PrintLast Go.Proofs.YtbiibhfcclfoiaaW.PrintMore
attribute [local go_sem] max2_int min2_int max_two min_two max_three min_three max_four min_four   -- for this text's walks alone
set_option linter.unusedVariables false
set_option linter.unusedSimpArgs false

/-! ### spec_roPlay: function 22, a contract of our own -/
-- LIB Rounds
set_option maxHeartbeats 8000000 in
set_option maxRecDepth 100000 in
theorem roPlay_calls (h e0 : Nat) (n0 b : Int) (w : World) (he0 : e0 ≤ 10) (hp : PlayAt h b 1000 e0 0 n0) :
    Calls Try.prog 22 #[.int .i64 e0, .int .i64 h, .int .i64 n0, .int .i64 b] w fun e' w' => ∃ v, e' = .returned (.tuple #[v, .int .i64 (totA b (playR h b 1000 e0 0 n0) : Nat)]) ∧ Kd.R (Kd.slice 3 (Kd.int .i64)) 25 w' w.heap.size (fun _ => True) v (playR h b 1000 e0 0 n0) ∧ Below w.heap.size w w' := by
  have HB := Aside0.mk (Below.refl w.heap.size w)
  have HP := Aside0.mk hp
  generalize hres : playR h b 1000 e0 0 n0 = res
  have HRES := Aside0.mk hres
  have hb1 : b ≤ 1000 := by have := hp.bh; have := hp.hi; omega
  have hb0 : 0 ≤ b := by have := hp.lb; omega
  clear hp hres
  go_enter Try.func22, Try.ntmps22
  go_wp2
  go_loopg [10, 11, 12, 13] 1000 (fun gg v10 v11 v12 v13 wr => ∃ (k e c : Nat) (low high : Int) (out : List (List Int)), v10 = .int .i64 low ∧ v11 = .int .i64 high ∧ v12 = .int .i64 c ∧ k ≤ gg ∧ Aside0 (out.length + k ≤ 1000) ∧ Aside0 (e + c = e0) ∧ Aside0 (c = totA b out) ∧ Aside0 (PlayAt h b k e low high) ∧ Aside0 (out ++ playR h b k e low high = res) ∧ Aside0 (Kd.R (Kd.slice 3 (Kd.int .i64)) 25 wr w.heap.size (fun _ => True) v13 out) ∧ Aside0 (Below w.heap.size w wr))
  case atStart => exact ⟨1000, e0, 0, 0, n0, [], rfl, rfl, rfl, Nat.le_refl _, ⟨by simp⟩, ⟨by omega⟩, ⟨rfl⟩, HP, HRES, ⟨Kd.R_nil _ _ _ _ _⟩, HB⟩
  case round =>
    clear HB HRES HP
    obtain ⟨k, e, c, low, high, out, rfl, rfl, rfl, hgg, HLN, HEC, HTOT, HP, HRES, HO, HB⟩ := hrel
    by_cases hlt : low < high
    · obtain ⟨r1, r2, r3, r4, r5, r6, r7⟩ := HP.out.round hlt
      have hl0 := HP.out.l0
      have hh1 := HP.out.hi
      have he1 := HP.out.egg hlt
      have he2 := HP.out.e2
      obtain ⟨k', rfl⟩ : ∃ k', k = k' + 1 := ⟨k - 1, by omega⟩
      have hres := HRES.out
      rw [playR_step h b k' e low high hlt] at hres
      rw [Nat.add_sub_cancel] at r7
      have hec := HEC.out
      have hwl : IntKind.i64.wrap (high - low) = high - low := by rw [i64_w]; unfold wrap64; omega
      have hwe : IntKind.i64.wrap ((e0 : Int) - (c : Int)) = (e0 : Int) - (c : Int) := by clear hwl; rw [i64_w]; unfold wrap64; omega
      have HFI : Aside0 (∀ W, Calls Try.prog 33 #[.int .i64 ((e0 : Int) - (c : Int)), .int .i64 h, .int .i64 (high - low)] W fun e' w' => ∃ v, e' = .returned v ∧ Kd.R (Kd.int .i64) 3 w' W.heap.size (fun _ => True) v (firstR h e (high - low)) ∧ Below W.heap.size W w') := ⟨fun W => by
        clear hwl hwe
        rw [show (e0 : Int) - (c : Int) = (e : Int) by omega]
        exact spec_roFirst.calls 4000 e h (high - low) _ W (roFirst_is h e (high - low) HP.out.h1 HP.out.h2 he1 he2 (by omega) (by omega) 4000 (Nat.le_refl _))⟩
      have hmore := fun i hi => shift_more b low high (firstR h e (high - low)) r1 r4 i hi
      have hrl : (roundR h e low high).length = (firstR h e (high - low)).length := shiftR_len _ _
      have hrd : roundR h e low high = shiftR low (firstR h e (high - low)) := rfl
      have hcnt := fun i hi => cntA_more b (roundR h e low high) i hi
      generalize firstR h e (high - low) = fl at HFI hmore hrl hrd
      generalize hrr : roundR h e low high = r at *
      have hlen : r.length ≠ 0 := fun h0 => r2 (List.length_eq_zero_iff.1 h0)
      have HMORE := Aside0.mk hmore
      have HCNT := Aside0.mk hcnt
      have HRD0 := Aside0.mk hrd
      have HRES2 := Aside0.mk hres
      have HP2 := Aside0.mk r7
      have HMEM := Aside0.mk r4
      have HCE : Aside0 (cntA b r ≤ e) := ⟨Nat.le_trans r5 (by rw [← hrr]; exact Nat.le_trans (roundR_len h e low high) (Nat.min_le_right _ _))⟩
      obtain ⟨rn, hrn⟩ : ∃ rn, r.length = rn := ⟨_, rfl⟩
      have HRN := Aside0.mk hrn
      have HFN : Aside0 (fl.length = rn) := ⟨by omega⟩
      have hrn1 : 0 < rn := by omega
      have hrn2 : rn ≤ 1000 := by omega
      have HFORM : Aside0 (∀ (W : World) (base : Nat) (v : Value), Kd.R (Kd.int .i64) 3 W base (fun _ => True) v fl → ∃ g2 cap, v = .slice (some ⟨g2, 0, none⟩) rn cap) := ⟨fun W base v hr => by
        obtain ⟨g2, cap, h1, _⟩ := Kd.R_form hr (by rw [HFN.out]; exact hrn1)
        rw [HFN.out] at h1
        exact ⟨g2, cap, h1⟩⟩
      obtain ⟨A9, c9, hv9⟩ := Kd.R_slice HO.out
      have HOL : Aside0 (out.length ≤ 1000) := ⟨by have := HLN.out; omega⟩
      have HKN : Aside0 (out.length + (k' + 1) ≤ 1000) := HLN
      subst hv9
      clear hrr hmore hcnt hrd hrl r1 r2 r3 r4 r5 r6 r7 hres hec hlen hrn HRES HLN HP he1
      generalize out.length = on at HO
      go_wp2_with (go_at_call 33; refine (HFI.out _).mono ?_; rintro e_ w1 ⟨v, rfl, hr, hb⟩; have n0_ := Aside0.mk (Kd.R_below HO.out hb); have n1_ := Aside0.mk (below_step HB.out hb); have HF := Aside0.mk (Kd.R_lower hr (below_size HB.out)); clear HO HB hr hb; have HO := n0_; have HB := n1_; clear n0_ n1_; obtain ⟨g2, cap, rfl⟩ := HFORM.out _ _ _ HF.out)
      have n0_ := Aside0.mk (Kd.R_mono (Kd.R_bound HF.out) (fun k hk => hk.2.2.1) : Kd.R (Kd.int .i64) 3 w1 w.heap.size (fun k => k < w1.heap.size) (.slice (some ⟨g2, 0, none⟩) rn cap) fl)
      have HOO := Aside0.mk (Kd.R_mono (Kd.R_bound HO.out) (fun k hk => hk.2.2.1) : Kd.R (Kd.slice 3 (Kd.int .i64)) 25 w1 w.heap.size (fun k => k < w1.heap.size) (.slice A9 on c9) out)
      clear HF HO HFI HFORM
      have HF := n0_
      clear n0_
      go_loopg [14, 15, 16, 18, 36] rn (fun gg2 v14 v15 v16 _ v36 wr => ∃ (i : Nat) (L : List Int) (lo hi : Int), v36 = .int .i64 i ∧ v15 = .int .i64 lo ∧ v16 = .int .i64 hi ∧ i ≤ rn ∧ rn - i ≤ gg2 ∧ 0 ≤ lo ∧ lo ≤ 1000 ∧ 0 ≤ hi ∧ hi ≤ 1000 ∧ Aside0 (L = shiftR low (fl.take i)) ∧ Aside0 (lo = loOf b low L) ∧ Aside0 (hi = hiOf b high L) ∧ Aside0 (L.length ≤ 1000) ∧ Aside0 (Kd.R (Kd.int .i64) 3 wr w1.heap.size (fun _ => True) v14 L) ∧ Aside0 (Kd.R (Kd.int .i64) 3 wr w.heap.size (fun k => k < w1.heap.size) (.slice (some ⟨g2, 0, none⟩) rn cap) fl) ∧ Aside0 (Kd.R (Kd.slice 3 (Kd.int .i64)) 25 wr w.heap.size (fun k => k < w1.heap.size) (.slice A9 on c9) out) ∧ Aside0 (Below w1.heap.size w1 wr))
      case atStart => exact ⟨0, [], low, high, rfl, rfl, rfl, Nat.zero_le _, Nat.le_refl _, by omega, by omega, by omega, by omega, ⟨rfl⟩, ⟨rfl⟩, ⟨rfl⟩, ⟨by simp⟩, ⟨Kd.R_nil _ _ _ _ _⟩, HF, HOO, ⟨Below.refl _ _⟩⟩
      case round =>
        clear HF HOO
        obtain ⟨i, L, lo, hi, rfl, rfl, rfl, hi1, hgg2, hlo0, hlo1, hhi0, hhi1, HL, HLO, HHI, HLL, HO, HF, HOO, HB1⟩ := hrel
        by_cases hir : i < rn
        · have hirz : (i : Int) < (rn : Int) := by omega
          obtain ⟨m1, m2, m3, m4, m5⟩ := HMORE.out i (by rw [HFN.out]; exact hir)
          have hx : wr.cell? ⟨g2, i, none⟩ = some (.int .i64 (fl.getD i 0)) := by
            have := (Kd.R_celln (0 : Int) HF.out (i : Int) (by omega) (by omega)).1
            rw [Int.toNat_natCast] at this
            simpa [rdOf] using this
          generalize fl.getD i 0 = x at hx m1 m2 m3 m4 m5
          rw [← HL.out] at m1 m2 m3
          rw [← HLO.out] at m2
          rw [← HHI.out] at m3
          have HM1 := Aside0.mk m1.symm
          rw [m1] at m2 m3
          obtain ⟨L2, hL2⟩ : ∃ L2, L2 = L ++ [x + low] := ⟨_, rfl⟩
          rw [← hL2] at m2 m3
          have HL2 : Aside0 (L2 = shiftR low (fl.take (i + 1))) := ⟨by rw [hL2]; exact m1.symm⟩
          have HLL2 : Aside0 (L2.length ≤ 1000) := ⟨by
            rw [HL2.out, shiftR_len, List.length_take, HFN.out]; omega⟩
          have Hy := Aside0.mk hL2
          have HM2 := Aside0.mk m2
          have HM3 := Aside0.mk m3
          clear m1 m2 m3 hL2 HM1 HMORE HP2 HRES2 HCNT
          obtain ⟨hw1, hw2⟩ : IntKind.i64.wrap (x + low) = x + low ∧ IntKind.i64.wrap (x + low - 1) = x + low - 1 := by
            refine ⟨?_, ?_⟩ <;> (rw [i64_w]; unfold wrap64; omega)
          have hxb : 0 ≤ x + low ∧ x + low ≤ 1000 := by clear hw1 hw2; omega
          by_cases hc : x + low > b
          · have hd : decide (b < x + low) = true := decide_eq_true hc
            have HLE : Aside0 (∀ W, Calls Try.prog 34 #[.int .i64 hi, .int .i64 (x + low - 1)] W fun e' w' => e' = .returned (.int .i64 (min hi (x + low - 1))) ∧ W = w') := ⟨fun W => spec_l1Least.calls0 hi (x + low - 1) _ W (spec_l1Least_is _ _)⟩
            have HM2' : Aside0 (lo = loOf b low L2) := ⟨by rw [HM2.out, if_pos hc]⟩
            have HM3' : Aside0 (min hi (x + low - 1) = hiOf b high L2) := ⟨by rw [HM3.out, if_pos hc]⟩
            have hmr : 0 ≤ min hi (x + low - 1) ∧ min hi (x + low - 1) ≤ 1000 := by clear hw1 hw2 hwl hwe hd; omega
            generalize min hi (x + low - 1) = hi2 at HLE HM3' hmr
            clear HM2 HM3 hc
            go_wp2_with (first
              | ((with_reducible refine gate_builtin (b := .append) (xs := #[.tmp 43, .tmp 45]) rfl ?_); at_builtin; refine Kd.R_append (Kd.int .i64) (w0 := w1) w1.heap.size rfl (.tmp 43) (.tmp 45) 25 3 (.int .i64 0) 8 rfl Try.underlying25 info3 rfl (by decide) (by omega) _ L (x + low) [.int .i64 (x + low)] (fun _ => True) (fun _ => False) rfl rfl ?aP (fun _ hk => hk.elim) ?aF ?aO ?aB ?aS ?aL ?_; (case aP => exact rfl); (case aB => exact (by repeat (first | (with_reducible first | exact HB1.out | apply below_alloc | apply pw_below_drewN | apply below_drew1) | exact HB1.out))); (case aF => exact (fun _ _ => trivial)); (case aO => exact (by (with_reducible repeat (first | apply Kd.R_alloc | apply Kd.R_drewN | apply Kd.R_drew)); exact HO.out)); (case aS => exact (below_size (by repeat (first | (with_reducible first | exact HB1.out | apply below_alloc | apply pw_below_drewN | apply below_drew1) | exact HB1.out)))); (case aL => (have := HLL.out; omega)); intro va_ wa_ ho hb hg hat; rw [← Hy.out] at ho; have HOO := Aside0.mk (Kd.R_grown HOO.out hg (fun k hk => by intro he; have := Kd.R_base HO.out k he.symm; omega)); have HF := Aside0.mk (Kd.R_grown HF.out hg (fun k hk => by intro he; have := Kd.R_base HO.out k he.symm; omega)); have n0_ := Aside0.mk (hb); have n1_ := Aside0.mk (ho); clear HB1; clear HO; have HB1 := n0_; have HO := n1_; clear n0_ n1_; clear ho hb hg hat)
              | (go_at_call 34; refine (HLE.out _).mono ?_; rintro e_ w_ ⟨rfl, rfl⟩))
            go_roundg (rn - (i + 1))
            case measure => omega
            case rel => exact ⟨i + 1, L2, lo, hi2, by go_num, rfl, by go_num, by clear hw1 hw2 hwl hwe hd; omega, by clear hw1 hw2 hwl hwe hd; omega, hlo0, hlo1, hmr.1, hmr.2, HL2, HM2', HM3', HLL2, HO, HF, HOO, HB1⟩
          · have hd : decide (b < x + low) = false := decide_eq_false (by clear hw1 hw2 hwl hwe; omega)
            have HM2' : Aside0 (x + low = loOf b low L2) := ⟨by rw [HM2.out, if_neg hc]⟩
            have HM3' : Aside0 (hi = hiOf b high L2) := ⟨by rw [HM3.out, if_neg hc]⟩
            clear HM2 HM3 hc
            go_wp2_with (
              ((with_reducible refine gate_builtin (b := .append) (xs := #[.tmp 43, .tmp 45]) rfl ?_); at_builtin; refine Kd.R_append (Kd.int .i64) (w0 := w1) w1.heap.size rfl (.tmp 43) (.tmp 45) 25 3 (.int .i64 0) 8 rfl Try.underlying25 info3 rfl (by decide) (by omega) _ L (x + low) [.int .i64 (x + low)] (fun _ => True) (fun _ => False) rfl rfl ?aP (fun _ hk => hk.elim) ?aF ?aO ?aB ?aS ?aL ?_; (case aP => exact rfl); (case aB => exact (by repeat (first | (with_reducible first | exact HB1.out | apply below_alloc | apply pw_below_drewN | apply below_drew1) | exact HB1.out))); (case aF => exact (fun _ _ => trivial)); (case aO => exact (by (with_reducible repeat (first | apply Kd.R_alloc | apply Kd.R_drewN | apply Kd.R_drew)); exact HO.out)); (case aS => exact (below_size (by repeat (first | (with_reducible first | exact HB1.out | apply below_alloc | apply pw_below_drewN | apply below_drew1) | exact HB1.out)))); (case aL => (have := HLL.out; omega)); intro va_ wa_ ho hb hg hat; rw [← Hy.out] at ho; have HOO := Aside0.mk (Kd.R_grown HOO.out hg (fun k hk => by intro he; have := Kd.R_base HO.out k he.symm; omega)); have HF := Aside0.mk (Kd.R_grown HF.out hg (fun k hk => by intro he; have := Kd.R_base HO.out k he.symm; omega)); have n0_ := Aside0.mk (hb); have n1_ := Aside0.mk (ho); clear HB1; clear HO; have HB1 := n0_; have HO := n1_; clear n0_ n1_; clear ho hb hg hat))
            go_roundg (rn - (i + 1))
            case measure => omega
            case rel => exact ⟨i + 1, L2, x + low, hi, by go_num, by go_num, rfl, by clear hw1 hw2 hwl hwe hd; omega, by clear hw1 hw2 hwl hwe hd; omega, hxb.1, hxb.2, hhi0, hhi1, HL2, HM2', HM3', HLL2, HO, HF, HOO, HB1⟩
        · have hirz : ¬ (i : Int) < (rn : Int) := by omega
          obtain rfl : i = rn := by omega
          have hLr : r = L := by rw [HL.out, HRD0.out, List.take_of_length_le (by rw [HFN.out]; exact Nat.le_refl _)]
          subst hLr
          have hform := Kd.R_form HO.out (by rw [HRN.out]; exact hrn1)
          obtain ⟨g3, c3, hv3, _⟩ := hform
          rw [HRN.out] at hv3
          subst hv3
          have HOX := Aside0.mk (Kd.R_mono HOO.out (fun _ _ => trivial) : Kd.R (Kd.slice 3 (Kd.int .i64)) 25 wr w.heap.size (fun _ => True) (.slice A9 on c9) out)
          have HRD := Aside0.mk (Kd.R_lower HO.out (below_size HB.out))
          have HBX := Aside0.mk (below_step HB.out HB1.out)
          have hlo := HLO.out
          have hhi := HHI.out
          clear HO HOO HF HB HB1 HMORE HLL HL HRD0 HFN hwl hwe hirz HLO HHI hi1 hgg2
          rw [← hlo, ← hhi] at HRES2 HP2
          clear hlo hhi
          have HO := HOX
          have HB := HBX
          have hcb0 : c ≤ 10 := by have := HEC.out; omega
          clear HOX HBX
          go_wp2
          go_loopg [12, 20, 58] i (fun gg3 v12 _ v58 wr2 => ∃ (j cc : Nat), v58 = .int .i64 j ∧ v12 = .int .i64 cc ∧ j ≤ i ∧ i - j ≤ gg3 ∧ cc ≤ 10 + j ∧ Aside0 (cc = c + cntA b (r.take j)) ∧ wr = wr2)
          case atStart => exact ⟨0, c, rfl, rfl, Nat.zero_le _, Nat.le_refl _, by omega, ⟨by simp [cntA]⟩, rfl⟩
          case round =>
            obtain ⟨j, cc, rfl, rfl, hj, hgg3, hcb, HCC, rfl⟩ := hrel
            by_cases hjr : j < i
            · have hjz : (j : Int) < (i : Int) := by omega
              have hx : wr.cell? ⟨g3, j, none⟩ = some (.int .i64 (r.getD j 0)) := by
                have := (Kd.R_celln (0 : Int) HRD.out (j : Int) (by omega) (by omega)).1
                rw [Int.toNat_natCast] at this
                simpa [rdOf] using this
              have hq := HCNT.out j (by rw [HRN.out]; exact hjr)
              have hxm : low < r.getD j 0 ∧ r.getD j 0 ≤ high := by
                have h1 : r.getD j 0 = r[j]'(by rw [HRN.out]; exact hjr) := by simp [List.getD_eq_getElem?_getD, HRN.out, hjr]
                rw [h1]
                exact HMEM.out _ (List.getElem_mem _)
              generalize r.getD j 0 = x at hx hq hxm
              by_cases hc : x > b
              · have hd : decide (b < x) = true := decide_eq_true hc
                have HCC2 : Aside0 (cc + 1 = c + cntA b (r.take (j + 1))) := ⟨by have := HCC.out; rw [hq, if_pos hc]; omega⟩
                clear hq hc HCC
                go_wp2
                go_roundg (i - (j + 1))
                case measure => omega
                case rel => exact ⟨j + 1, cc + 1, by go_num, by go_num, by omega, by omega, by omega, HCC2, rfl⟩
              · have hd : decide (b < x) = false := decide_eq_false (by omega)
                have HCC2 : Aside0 (cc = c + cntA b (r.take (j + 1))) := ⟨by have := HCC.out; rw [hq, if_neg hc]; omega⟩
                clear hq hc HCC
                go_wp2
                go_roundg (i - (j + 1))
                case measure => omega
                case rel => exact ⟨j + 1, cc, by go_num, by go_num, by omega, by omega, by omega, HCC2, rfl⟩
            · have hjz : ¬ (j : Int) < (i : Int) := by omega
              obtain rfl : j = i := by omega
              have hcc := HCC.out
              rw [List.take_of_length_le (by rw [HRN.out]; exact Nat.le_refl _)] at hcc
              have hce := HCE.out
              have htot : totA b (out ++ [r]) = totA b out + cntA b r := by rw [totA_append]; simp [totA]
              have hres := HRES2.out
              have hp2 := HP2.out
              generalize cntA b r = q at hcc hce htot hres hp2
              subst hcc
              obtain ⟨e', he'⟩ : ∃ e', e = e' + q := ⟨e - q, by omega⟩
              have HEC2 : Aside0 (e' + (c + q) = e0) := ⟨by have := HEC.out; omega⟩
              obtain ⟨out2, ho2⟩ : ∃ out2, out2 = out ++ [r] := ⟨_, rfl⟩
              have HTOT2 : Aside0 (c + q = totA b out2) := ⟨by rw [ho2, htot, ← HTOT.out]⟩
              have HLN2 : Aside0 (out2.length + k' ≤ 1000) := ⟨by have := HKN.out; rw [ho2]; simp; omega⟩
              have HR : Aside0 (out2 ++ playR h b k' e' lo hi = res) := ⟨by
                have h1 := hres
                rw [he', Nat.add_sub_cancel] at h1
                rw [ho2, ← h1]; simp⟩
              have HP3 : Aside0 (PlayAt h b k' e' lo hi) := ⟨by
                have h1 := hp2
                rw [he', Nat.add_sub_cancel] at h1
                exact h1⟩
              have Hy := Aside0.mk ho2
              clear he' ho2 hres hp2 htot hce HTOT HEC HRES2 HP2 HCC HCE HCNT HMEM hcb hj hgg3 hcb0 hjz
              go_wp2_with (
                ((with_reducible refine gate_builtin (b := .append) (xs := #[.tmp 70, .tmp 72]) rfl ?_); at_builtin; refine Kd.R_append (Kd.slice 3 (Kd.int .i64)) (w0 := w) w.heap.size rfl (.tmp 70) (.tmp 72) 31 25 (.slice none 0 0) 24 rfl Try.underlying31 info25 rfl (by decide) (by omega) (.slice A9 on c9) out r [.slice (some ⟨g3, 0, none⟩) j c3] (fun _ => True) (fun k_ => True ∧ some k_ ≠ ((.slice A9 on c9) : Value).ownBlock) rfl rfl ?aP (fun _ hk => hk) ?aF ?aO ?aB ?aS ?aL ?_; (case aP => exact ⟨_, rfl, Kd.R_apart' HRD.out (Kd.R_typed HO.out) (by decide)⟩); (case aB => exact (by repeat (first | (with_reducible first | exact HB.out | apply below_alloc | apply pw_below_drewN | apply below_drew1) | exact HB.out))); (case aF => exact (fun _ _ => trivial)); (case aO => exact (by (with_reducible repeat (first | apply Kd.R_alloc | apply Kd.R_drewN | apply Kd.R_drew)); exact HO.out)); (case aS => exact (below_size (by repeat (first | (with_reducible first | exact HB.out | apply below_alloc | apply pw_below_drewN | apply below_drew1) | exact HB.out)))); (case aL => (have := HOL.out; omega)); intro va_ wa_ ho hb hg hat; have n9_ := Aside0.mk (Kd.R_over' HRD.out (Kd.R_typed HO.out) (by decide) hg); rw [← Hy.out] at ho; have n0_ := Aside0.mk (hb); have n1_ := Aside0.mk (ho); clear HB HO HRD; have HB := n0_; have HO := n1_; have HRD := n9_; clear n0_ n1_ n9_; clear ho hb hg hat))
              go_roundg k'
              case measure => omega
              case rel => exact ⟨k', e', c + q, lo, hi, out2, by go_num, by go_num, by go_num, Nat.le_refl _, HLN2, HEC2, HTOT2, HP3, HR, HO, HB⟩
    · have hpe := playR_end h b k e low high hlt
      have HR : Aside0 (out = res) := ⟨by have := HRES.out; rw [hpe] at this; simpa using this⟩
      clear hpe HRES
      go_wp2
      go_ret2
      exact ⟨u13, (by rw [← HR.out, ← HTOT.out]; rfl), by rw [← HR.out]; exact HO.out, HB.out⟩

/-! ### spec_PlayRounds: function 16, a contract of our own -/
def spec_PlayRounds.f (a0 a1 a2 a3 : Int) : Option ((List (List Int)) × Bool) := some (if rguard a0 a1 a2 a3 = true then rplay a0 a1 a2 a3 else [], rguard a0 a1 a2 a3)
set_option maxHeartbeats 8000000 in
set_option maxRecDepth 100000 in
theorem spec_PlayRounds.calls (a0 a1 a2 a3 : Int) (r1 : List (List Int)) (r2 : Bool) (w : World) (h : spec_PlayRounds.f a0 a1 a2 a3 = some (r1, r2)) :
    Calls Try.prog 16 #[.int .i64 a0, .int .i64 a1, .int .i64 a2, .int .i64 a3] w fun e w' => ∃ v0_ : Value, e = .returned (.tuple #[v0_, .bool r2]) ∧ Kd.R (Kd.slice 3 (Kd.int .i64)) 25 w' w.heap.size (fun _ => True) v0_ r1 ∧ Below w.heap.size w w' := by
  have HB := Aside0.mk (Below.refl w.heap.size w)
  unfold spec_PlayRounds.f at h
  obtain ⟨hq1, hq2⟩ := Prod.mk.inj (Option.some.inj h)
  have HG := Aside0.mk (fun (W : World) => spec_roAsked.calls0 a0 a1 a2 a3 (rguard a0 a1 a2 a3) W (spec_roAsked_is a0 a1 a2 a3))
  subst hq2
  clear h
  cases hgd : rguard a0 a1 a2 a3 with
  | true =>
    rw [hgd] at HG
    rw [if_pos hgd] at hq1
    have HP : Aside0 (∀ W : World, Calls Try.prog 22 #[.int .i64 a0, .int .i64 a1, .int .i64 a2, .int .i64 a3] W fun e' w' => ∃ (v : Value) (x : Int), e' = .returned (.tuple #[v, .int .i64 x]) ∧ Kd.R (Kd.slice 3 (Kd.int .i64)) 25 w' W.heap.size (fun _ => True) v r1 ∧ Below W.heap.size W w') := ⟨fun W => by
      obtain ⟨e, hn, rfl, rfl, he1, he2, hh1, hh2, hp, hpl⟩ := rguard_true hgd
      refine (roPlay_calls hn e a2 a3 W he2 hp).mono ?_
      rintro e_ w_ ⟨v, rfl, hr, hb⟩
      exact ⟨v, _, rfl, by rw [← hq1, hpl]; exact hr, hb⟩⟩
    clear hgd hq1
    go_enter Try.func16, Try.ntmps16
    go_wp2_with (first
      | (go_at_call 21; refine (HG.out _).mono ?_; rintro e_ w_ ⟨rfl, rfl⟩)
      | (go_at_call 22; refine (HP.out _).mono ?_; rintro e_ w3 ⟨v, x, rfl, hr, hb⟩; have HO := Aside0.mk (Kd.R_lower hr (below_size HB.out)); have n0_ := Aside0.mk (below_step HB.out hb); clear HB hb hr; have HB := n0_; clear n0_))
    go_ret2
    exact ⟨_, rfl, HO.out, HB.out⟩
  | false =>
    rw [hgd] at HG
    rw [if_neg (by rw [hgd]; decide)] at hq1
    subst hq1
    clear hgd
    go_enter Try.func16, Try.ntmps16
    go_wp2_with (go_at_call 21; refine (HG.out _).mono ?_; rintro e_ w_ ⟨rfl, rfl⟩)
    go_ret2
    exact ⟨_, rfl, Kd.R_nil _ _ _ _ _, HB.out⟩


end Go.Proofs.Ytbiibhfcclfoiaa.PrintA
