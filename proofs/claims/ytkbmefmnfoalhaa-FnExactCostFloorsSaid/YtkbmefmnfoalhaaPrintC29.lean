-- written by this session's own driver (wip/gen.py) with the kit's print and contracts of our own
import Derived.Test.YtkbmefmnfoalhaaPrintC0
import Derived.Test.YtkbmefmnfoalhaaPrintC7
import Derived.Test.YtkbmefmnfoalhaaPrintC9
import Derived.Test.YtkbmefmnfoalhaaPrintC10
namespace Go.Proofs.Ytkbmefmnfoalhaa.PrintC
open Go.RowKit Go.Proofs.YtkbmefmnfoalhaaLib Go.Proofs.YtkbmefmnfoalhaaW.PrintWords Go.Proofs.YtkbmefmnfoalhaaW.PrintLast Go.Proofs.YtkbmefmnfoalhaaW.PrintMore
attribute [local go_sem] max2_int min2_int max_two min_two max_three min_three max_four min_four   -- for this text's walks alone
set_option linter.unusedVariables false
set_option linter.unusedSimpArgs false

/-! ### spec_csTable_floors: function 35, a contract of our own -/
/-- The floors up to f by which the cost is least, as the reference asks. -/
def flS (E T C : Int) (e n : Nat) : Nat → List Int
  | 0 => []
  | f + 1 => if (2 ≤ e ∨ f + 1 = 1) ∧ firstG E T C e n 0 (f + 1) = cst E T C e n 0 then flS E T C e n f ++ [((f + 1 : Nat) : Int)] else flS E T C e n f
theorem flS_len (E T C : Int) (e n : Nat) : ∀ f, (flS E T C e n f).length ≤ f
  | 0 => Nat.le_refl _
  | f + 1 => by
    have := flS_len E T C e n f
    unfold flS
    split
    · simp; omega
    · omega
set_option maxHeartbeats 8000000 in
set_option maxRecDepth 100000 in
theorem sfloors_calls {g gl cl gh ch ne nf : Nat} {rl pl rh ph : Nat → Nat} {E T C : Int} {low high : Nat → Nat → Int} (e n : Nat) (w : World) (hI : RD w g gl cl gh ch ne nf rl pl rh ph E T C low high) (he : 1 ≤ e) (hne : e ≤ ne) (hne2 : ne ≤ 10) (hn : n ≤ nf) (hnf : nf ≤ 60) (hp : Prs E T C) (hK : Knows E T C low high e n) :
    Calls Try.prog 35 #[.pointer (some ⟨g, 0, none⟩), .int .i64 e, .int .i64 n, .int .i64 0] w fun e' w' => ∃ v, e' = .returned v ∧ Kd.R (Kd.int .i64) 3 w' w.heap.size (fun _ => True) v (flS E T C e n n) ∧ Below w.heap.size w w' := by
  have HB := Aside0.mk (Below.refl w.heap.size w)
  have HBY : Aside0 (∀ (f : Nat) (W : World), Below w.heap.size w W → 1 ≤ f → f ≤ n → (2 ≤ e ∨ f = 1) → Calls Try.prog 44 #[.pointer (some ⟨g, 0, none⟩), .int .i64 e, .int .i64 n, .int .i64 0, .int .i64 f] W fun e' w' => e' = .returned (.int .i64 (firstG E T C e n 0 f)) ∧ ∃ m, w' = W.drewN m) :=
    ⟨fun f W hW hf hfn hcan => by_first e n 0 f W (hI.below hW) he hne hne2 hn hnf (by omega) hf hfn hp hK hcan⟩
  have HLE : Aside0 (∀ W : World, 1 ≤ n → Below w.heap.size w W → Calls Try.prog 39 #[.pointer (some ⟨g, 0, none⟩), .int .i64 e, .int .i64 n, .int .i64 0] W fun e' w' => e' = .returned (.int .i64 (cst E T C e n 0)) ∧ ∃ m, w' = W.drewN m) := ⟨fun W h1 hW => by
    have hc := least_calls e n 0 W (hI.below hW) he hne hne2 hn hnf (by omega) hp hK
    rw [bestL_cst hp e n 0 (by omega) he h1, if_neg (show ¬ (0 : Nat) = 1 by decide)] at hc
    exact hc⟩
  have HCAN := Aside0.mk (fun (f : Nat) (W : World) (hf : 1 ≤ f) => spec_csCan.calls0 (e : Int) ((f : Int) - 1) _ W (csCan_is e f hf))
  have HO := Aside0.mk (Kd.R_nil (Kd.int .i64) 3 w w.heap.size (fun _ => True))
  have hnz : (n : Int) ≤ 60 := by omega
  clear hI hp hK
  go_enter Try.func35, Try.ntmps35
  go_wp2
  go_loopg [9, 10] (n + 1) (fun gg v9 v10 wr => ∃ f : Nat, f ≤ n ∧ n - f ≤ gg ∧ v10 = .int .i64 ((f + 1 : Nat) : Int) ∧ Aside0 (Kd.R (Kd.int .i64) 3 wr w.heap.size (fun _ => True) v9 (flS E T C e n f)) ∧ Aside0 (Below w.heap.size w wr))
  case atStart => exact ⟨0, by omega, by omega, rfl, HO, HB⟩
  case round =>
    clear HO HB
    obtain ⟨f, hf1, hgg, rfl, HO, HB⟩ := hrel
    by_cases hlt : f < n
    · obtain ⟨fp, hfp⟩ : ∃ fp, fp = f + 1 := ⟨_, rfl⟩
      have hstep : flS E T C e n (f + 1) = if (2 ≤ e ∨ f + 1 = 1) ∧ firstG E T C e n 0 (f + 1) = cst E T C e n 0 then flS E T C e n f ++ [((f + 1 : Nat) : Int)] else flS E T C e n f := rfl
      have HLN : Aside0 ((flS E T C e n f).length ≤ f) := ⟨flS_len _ _ _ _ _ _⟩
      rw [← hfp] at hstep ⊢
      have hltz : (fp : Int) ≤ (n : Int) := by omega
      have hcn := fun W => HCAN.out fp W (by omega)
      have hf1p : 1 ≤ fp := by omega
      have hfnp : fp ≤ n := by omega
      have HFP := Aside0.mk hfp
      clear hfp
      by_cases hcan : 2 ≤ e ∨ fp = 1
      · rw [decide_eq_true hcan] at hcn
        have HC := Aside0.mk hcn
        have HBF := Aside0.mk (fun W hW => HBY.out fp W hW hf1p hfnp hcan)
        have HLF := Aside0.mk (fun W hW => HLE.out W (by omega) hW)
        clear hcn
        generalize firstG E T C e n 0 fp = x_ at hstep HBF
        generalize cst E T C e n 0 = y_ at hstep HLF
        by_cases hc : x_ = y_
        · have hbeq : (x_ == y_) = true := beq_iff_eq.mpr hc
          rw [if_pos ⟨hcan, hc⟩] at hstep
          have Hy := Aside0.mk hstep
          clear hstep hc hcan
          go_wp2_with (first
            | (go_at_call 43; refine (HC.out _).mono ?_; rintro e' w' ⟨rfl, rfl⟩)
            | (go_at_call 44; refine (HBF.out _ (by repeat (first | (with_reducible first | exact HB.out | apply below_alloc | apply pw_below_drewN | apply below_drew1) | exact HB.out))).mono ?_; rintro e' w' ⟨rfl, nd, rfl⟩)
            | (go_at_call 39; refine (HLF.out _ (by repeat (first | (with_reducible first | exact HB.out | apply below_alloc | apply pw_below_drewN | apply below_drew1) | exact HB.out))).mono ?_; rintro e' w' ⟨rfl, nd2, rfl⟩)
            | ((with_reducible refine gate_builtin (b := .append) (xs := #[.tmp 34, .tmp 36]) rfl ?_); at_builtin; refine Kd.R_append (Kd.int .i64) (w0 := w) w.heap.size rfl (.tmp 34) (.tmp 36) 34 3 (.int .i64 0) 8 rfl Try.underlying34 info3 rfl (by decide) (by omega) _ (flS E T C e n f) (fp : Int) [.int .i64 (fp : Int)] (fun _ => True) (fun _ => False) rfl rfl ?aP (fun _ hk => hk.elim) ?aF ?aO ?aB ?aS ?aL ?_; (case aP => exact rfl); (case aB => exact (by repeat (first | (with_reducible first | exact HB.out | apply below_alloc | apply pw_below_drewN | apply below_drew1) | exact HB.out))); (case aF => exact (fun _ _ => trivial)); (case aO => exact (by (with_reducible repeat (first | apply Kd.R_alloc | apply Kd.R_drewN | apply Kd.R_drew)); exact HO.out)); (case aS => exact (below_size (by repeat (first | (with_reducible first | exact HB.out | apply below_alloc | apply pw_below_drewN | apply below_drew1) | exact HB.out)))); (case aL => have := HLN.out; omega); intro va_ wa_ ho hb hg hat; rw [← Hy.out] at ho; have n0_ := Aside0.mk (hb); have n1_ := Aside0.mk (ho); clear HB; clear HO; have HB := n0_; have HO := n1_; clear n0_ n1_; clear ho hb hg hat))
          go_roundg (n - (f + 1))
          case measure => omega
          case rel => exact ⟨f + 1, by omega, by omega, by rw [← HFP.out]; go_num, ⟨by rw [← HFP.out]; exact HO.out⟩, HB⟩
        · have hbeq : (x_ == y_) = false := by rw [beq_eq_false_iff_ne]; exact hc
          rw [if_neg (fun h => hc h.2)] at hstep
          have Hy := Aside0.mk hstep
          clear hstep hc hcan
          go_wp2_with (first
            | (go_at_call 43; refine (HC.out _).mono ?_; rintro e' w' ⟨rfl, rfl⟩)
            | (go_at_call 44; refine (HBF.out _ (by repeat (first | (with_reducible first | exact HB.out | apply below_alloc | apply pw_below_drewN | apply below_drew1) | exact HB.out))).mono ?_; rintro e' w' ⟨rfl, nd, rfl⟩)
            | (go_at_call 39; refine (HLF.out _ (by repeat (first | (with_reducible first | exact HB.out | apply below_alloc | apply pw_below_drewN | apply below_drew1) | exact HB.out))).mono ?_; rintro e' w' ⟨rfl, nd2, rfl⟩))
          go_roundg (n - (f + 1))
          case measure => omega
          case rel => exact ⟨f + 1, by omega, by omega, by rw [← HFP.out]; go_num, ⟨by rw [← HFP.out, Hy.out]; exact (by (with_reducible repeat (first | apply Kd.R_alloc | apply Kd.R_drewN | apply Kd.R_drew)); exact HO.out)⟩, ⟨(by repeat (first | (with_reducible first | exact HB.out | apply below_alloc | apply pw_below_drewN | apply below_drew1) | exact HB.out))⟩⟩
      · rw [decide_eq_false hcan] at hcn
        have HC := Aside0.mk hcn
        rw [if_neg (fun h => hcan h.1)] at hstep
        have Hy := Aside0.mk hstep
        clear hcn hstep hcan
        go_wp2_with (go_at_call 43; refine (HC.out _).mono ?_; rintro e' w' ⟨rfl, rfl⟩)
        go_roundg (n - (f + 1))
        case measure => omega
        case rel => exact ⟨f + 1, by omega, by omega, by rw [← HFP.out]; go_num, ⟨by rw [← HFP.out, Hy.out]; exact HO.out⟩, HB⟩
    · have hltz : ¬ ((f + 1 : Nat) : Int) ≤ (n : Int) := by omega
      obtain rfl : f = n := by omega
      go_wp2
      go_ret
      exact ⟨_, rfl, HO.out, HB.out⟩

end Go.Proofs.Ytkbmefmnfoalhaa.PrintC
