-- written by this session's own driver (wip/gen.py) with the kit's print and contracts of our own
import Derived.Test.YtiahedkmlacpkaaPrintA0
import Derived.Test.YtiahedkmlacpkaaPrintA1
namespace Go.Proofs.Ytiahedkmlacpkaa.PrintA
open Go.RowKit Go.Proofs.YtiahedkmlacpkaaW.PrintWords Go.Proofs.YtiahedkmlacpkaaW.PrintLast Go.Proofs.YtiahedkmlacpkaaW.PrintMore
attribute [local go_sem] max2_int min2_int max_two min_two max_three min_three max_four min_four   -- for this text's walks alone
set_option linter.unusedVariables false
set_option linter.unusedSimpArgs false

/-! ### impl_play: function 41, a contract of our own -/
/-- The drops of a plan that drops first from F. -/
def playF (F : Nat → Int → Int) (b : Int) : Nat → Nat → Int → Int → List S56 → List S56
  | 0, _, _, _, acc => acc
  | k + 1, e, n, low, acc => if 0 < n then (if low + F e n > b then playF F b k (e - 1) (F e n - 1) low (acc ++ [⟨low + F e n, true⟩]) else playF F b k e (n - F e n) (low + F e n) (acc ++ [⟨low + F e n, false⟩])) else acc
theorem playF_zero (F : Nat → Int → Int) (b : Int) (k e : Nat) (low : Int) (acc) : playF F b k e 0 low acc = acc := by
  cases k <;> simp [playF]
set_option maxHeartbeats 8000000 in
set_option maxRecDepth 100000 in
theorem play_calls (gf : Nat) (fb lb : Array Value) (F : Nat → Int → Int) (e0 : Nat) (n0 b : Int) (w : World) (he : 1 ≤ e0) (he2 : e0 ≤ 10) (hn : 0 ≤ n0) (hn2 : n0 ≤ 1000) (hb0 : 0 ≤ b) (hb2 : b ≤ 1000)
    (eg : ∀ args w, (callFunc gf args).run Try.prog w = .ok (.enter gf args) w) (hF0 : ∀ e n, 1 ≤ n → 1 ≤ F e n ∧ F e n ≤ n) (hF1 : ∀ n, 1 ≤ n → n ≤ 1000 → F 1 n = 1)
    (hF : ∀ (W : World) (e : Nat) (n : Int), Below w.heap.size w W → 1 ≤ e → e ≤ 10 → 1 ≤ n → n ≤ 1000 → Calls Try.prog gf (fb ++ #[.int .i64 e, .int .i64 n] ++ lb) W fun e' w' => e' = .returned (.int .i64 (F e n)) ∧ Below W.heap.size W w') :
    Calls Try.prog 41 #[.int .i64 e0, .int .i64 n0, .int .i64 b, .func (.func gf) fb lb] w fun e' w' => ∃ v, e' = .returned v ∧ Kd.R k56 56 w' w.heap.size (fun _ => True) v (playF F b n0.toNat e0 n0 0 []) ∧ Below w.heap.size w w' := by
  have hu56 := Try.underlying56
  have HB := Aside0.mk (Below.refl w.heap.size w)
  have HF := Aside0.mk hF
  have HF0 := Aside0.mk hF0
  have HF1 := Aside0.mk hF1
  have EG := Aside0.mk eg
  clear hF hF0 hF1 eg
  generalize hr : playF F b n0.toNat e0 n0 0 [] = r
  have HR := Aside0.mk hr
  clear hr
  go_enter Try.func41, Try.ntmps41
  go_wp2_with ((with_reducible refine gate_dst (N := 13) rfl ?_); refine Kd.R_lit k56 _ 56 ?hg (N := 13) ?hd (xs := ([] : List S56)) (inner := []) (ok := fun _ => True) (okp := fun _ => True) ?hr ?hp (fun _ hk => hk) trivial (Below.refl _ _) (Nat.le_refl _) (by simp) ?_; (case hd => rfl); (case hg => rfl); (case hr => first | (go_simp; done) | (go_simp; rfl)); (case hp => exact (Reps.none _ _)); intro v113 w3 ho4 hb hg_ hnew_; clear hg_ hnew_; have n0_ := Aside0.mk (Kd.R_lower ho4 (below_size (by repeat (first | (with_reducible first | exact HB.out | apply below_alloc | apply pw_below_drewN | apply below_drew1) | exact HB.out)))); have n1_ := Aside0.mk (below_step (by repeat (first | (with_reducible first | exact HB.out | apply below_alloc | apply pw_below_drewN | apply below_drew1) | exact HB.out)) hb); clear HB; have HO := n0_; have HB := n1_; clear n0_ n1_; clear hb ho4)
  go_loopg [0, 1, 9, 10] n0.toNat (fun gg v0 v1 v9 v10 wr => ∃ (e : Nat) (n low : Int) (acc : List S56), v0 = .int .i64 e ∧ v1 = .int .i64 n ∧ v10 = .int .i64 low ∧ 0 ≤ n ∧ 0 ≤ low ∧ low + n ≤ 1000 ∧ e ≤ 10 ∧ Aside0 (0 < n → 1 ≤ e) ∧ Aside0 (n.toNat ≤ gg ∧ acc.length + n.toNat ≤ 1000) ∧ Aside0 (playF F b gg e n low acc = r) ∧ Aside0 (Kd.R k56 56 wr w.heap.size (fun _ => True) v9 acc) ∧ Aside0 (Below w.heap.size w wr))
  case atStart => exact ⟨e0, n0, 0, [], rfl, rfl, rfl, hn, by omega, by omega, he2, ⟨fun _ => he⟩, ⟨Nat.le_refl _, by simp; omega⟩, HR, HO, HB⟩
  case round =>
    clear HR HB HO
    obtain ⟨e, n, low, acc, rfl, rfl, rfl, hn', hl0, hln, he', HE, HM, HR, HO, HB⟩ := hrel
    by_cases hp : 0 < n
    · have he1 := HE.out hp
      obtain ⟨k, rfl⟩ : ∃ k, gk = k + 1 := ⟨gk - 1, by have := HM.out.1; omega⟩
      have hcall := HF.out
      have hrange := HF0.out e n (by omega)
      have h1 := HF1.out n (by omega) (by omega)
      have hr := HR.out
      rw [playF, if_pos hp] at hr
      have HEQ : Aside0 (e = 1 → F e n = 1) := ⟨fun h => by subst h; exact h1⟩
      have HC : Aside0 (∀ W, Below w.heap.size w W → Calls Try.prog gf (fb ++ #[.int .i64 e, .int .i64 n] ++ lb) W fun e' w' => e' = .returned (.int .i64 (F e n)) ∧ Below W.heap.size W w') :=
        ⟨fun W hW => hcall W e n hW he1 he' (by omega) (by omega)⟩
      clear hcall h1 HR
      generalize F e n = f at hrange hr HEQ HC
      by_cases hbr : low + f > b
      · rw [if_pos hbr] at hr
        obtain ⟨e', rfl⟩ : ∃ e', e = e' + 1 := ⟨e - 1, by omega⟩
        rw [Nat.add_sub_cancel] at hr
        have HR := Aside0.mk hr
        clear hr
        obtain ⟨acc2, h2⟩ : ∃ acc2, acc2 = acc ++ [(⟨low + f, true⟩ : S56)] := ⟨_, rfl⟩
        rw [← h2] at HR
        have Hy := Aside0.mk h2
        clear h2
        have hbd : decide (b < low + f) = true := decide_eq_true hbr
        go_wp2_with (first
          | ((with_reducible refine gate_dst (N := 19) rfl ?_); refine goesV_ (some 19) rfl rfl EG.out #[.int .i64 ((e' + 1 : Nat) : Int), .int .i64 n] rfl rfl (by (try simp only [List.map_toArray, List.map_cons, List.map_nil]); first | done | rfl) ?_; refine (HC.out _ (by repeat (first | (with_reducible first | exact HB.out | apply below_alloc | apply pw_below_drewN | apply below_drew1) | exact HB.out))).mono ?_; rintro e_ w9 ⟨rfl, hb⟩; refine ⟨_, rfl, ?_⟩; have n0_ := Aside0.mk (Kd.R_below (by (with_reducible repeat (first | apply Kd.R_alloc | apply Kd.R_drewN | apply Kd.R_drew)); exact HO.out) hb); have n2_ := Aside0.mk (below_step (by repeat (first | (with_reducible first | exact HB.out | apply below_alloc | apply pw_below_drewN | apply below_drew1) | exact HB.out)) hb); clear HO; clear HB; have HO := n0_; have HB := n2_; clear n0_ n2_; clear hb)
          | ((with_reducible refine gate_builtin (b := .append) (xs := #[.tmp 25, .tmp 31]) rfl ?_); at_builtin; refine Kd.R_append k56 (w0 := w) w.heap.size rfl (.tmp 25) (.tmp 31) 25 56 (.agg #[(.int .i64 0), (.bool false)]) 16 rfl Try.underlying25 info56 rfl (by decide) (by omega) _ acc (⟨low + f, true⟩ : S56) [.int .i64 (low + f), .bool true] (fun _ => True) (fun _ => False) rfl rfl ?aP (fun _ hk => hk.elim) ?aF ?aO ?aB ?aS ?aL ?_; (case aP => exact k56_mkM _ _ _ (⟨low + f, true⟩ : S56)); (case aB => exact (by repeat (first | (with_reducible first | exact HB.out | apply below_alloc | apply pw_below_drewN | apply below_drew1) | exact HB.out))); (case aF => exact (fun _ _ => trivial)); (case aO => exact (by (with_reducible repeat (first | apply Kd.R_alloc | apply Kd.R_drewN | apply Kd.R_drew)); exact HO.out)); (case aS => exact (below_size (by repeat (first | (with_reducible first | exact HB.out | apply below_alloc | apply pw_below_drewN | apply below_drew1) | exact HB.out)))); (case aL => have := HM.out.2; omega); intro v134 w11 ho hb hg hat; rw [← Hy.out] at ho; have n1_ := Aside0.mk (hb); have n2_ := Aside0.mk (ho); clear HB; clear HO; have HB := n1_; have HO := n2_; clear n1_ n2_; clear ho hb hg hat))
        go_roundg k
        case measure => omega
        case rel =>
          exact ⟨e', f - 1, low, acc2, by go_num, by go_num, rfl, by omega, by omega, by omega, by omega, ⟨fun h => by have := HEQ.out; omega⟩, ⟨by have := HM.out.1; omega, by have := HM.out.2; rw [Hy.out]; simp; omega⟩, HR, ⟨by (with_reducible repeat (first | apply Kd.R_alloc | apply Kd.R_drewN | apply Kd.R_drew)); exact HO.out⟩, ⟨by repeat (first | (with_reducible first | exact HB.out | apply below_alloc | apply pw_below_drewN | apply below_drew1) | exact HB.out)⟩⟩
      · rw [if_neg hbr] at hr
        have HR := Aside0.mk hr
        clear hr
        obtain ⟨acc2, h2⟩ : ∃ acc2, acc2 = acc ++ [(⟨low + f, false⟩ : S56)] := ⟨_, rfl⟩
        rw [← h2] at HR
        have Hy := Aside0.mk h2
        clear h2
        have hbd : decide (b < low + f) = false := decide_eq_false hbr
        go_wp2_with (first
          | ((with_reducible refine gate_dst (N := 19) rfl ?_); refine goesV_ (some 19) rfl rfl EG.out #[.int .i64 (e : Int), .int .i64 n] rfl rfl (by (try simp only [List.map_toArray, List.map_cons, List.map_nil]); first | done | rfl) ?_; refine (HC.out _ (by repeat (first | (with_reducible first | exact HB.out | apply below_alloc | apply pw_below_drewN | apply below_drew1) | exact HB.out))).mono ?_; rintro e_ w9 ⟨rfl, hb⟩; refine ⟨_, rfl, ?_⟩; have n0_ := Aside0.mk (Kd.R_below (by (with_reducible repeat (first | apply Kd.R_alloc | apply Kd.R_drewN | apply Kd.R_drew)); exact HO.out) hb); have n2_ := Aside0.mk (below_step (by repeat (first | (with_reducible first | exact HB.out | apply below_alloc | apply pw_below_drewN | apply below_drew1) | exact HB.out)) hb); clear HO; clear HB; have HO := n0_; have HB := n2_; clear n0_ n2_; clear hb)
          | ((with_reducible refine gate_builtin (b := .append) (xs := #[.tmp 25, .tmp 31]) rfl ?_); at_builtin; refine Kd.R_append k56 (w0 := w) w.heap.size rfl (.tmp 25) (.tmp 31) 25 56 (.agg #[(.int .i64 0), (.bool false)]) 16 rfl Try.underlying25 info56 rfl (by decide) (by omega) _ acc (⟨low + f, false⟩ : S56) [.int .i64 (low + f), .bool false] (fun _ => True) (fun _ => False) rfl rfl ?aP (fun _ hk => hk.elim) ?aF ?aO ?aB ?aS ?aL ?_; (case aP => exact k56_mkM _ _ _ (⟨low + f, false⟩ : S56)); (case aB => exact (by repeat (first | (with_reducible first | exact HB.out | apply below_alloc | apply pw_below_drewN | apply below_drew1) | exact HB.out))); (case aF => exact (fun _ _ => trivial)); (case aO => exact (by (with_reducible repeat (first | apply Kd.R_alloc | apply Kd.R_drewN | apply Kd.R_drew)); exact HO.out)); (case aS => exact (below_size (by repeat (first | (with_reducible first | exact HB.out | apply below_alloc | apply pw_below_drewN | apply below_drew1) | exact HB.out)))); (case aL => have := HM.out.2; omega); intro v134 w11 ho hb hg hat; rw [← Hy.out] at ho; have n1_ := Aside0.mk (hb); have n2_ := Aside0.mk (ho); clear HB; clear HO; have HB := n1_; have HO := n2_; clear n1_ n2_; clear ho hb hg hat))
        go_roundg k
        case measure => omega
        case rel =>
          exact ⟨e, n - f, low + f, acc2, by go_num, by go_num, by go_num, by omega, by omega, by omega, by omega, ⟨fun h => by omega⟩, ⟨by have := HM.out.1; omega, by have := HM.out.2; rw [Hy.out]; simp; omega⟩, HR, ⟨by (with_reducible repeat (first | apply Kd.R_alloc | apply Kd.R_drewN | apply Kd.R_drew)); exact HO.out⟩, ⟨by repeat (first | (with_reducible first | exact HB.out | apply below_alloc | apply pw_below_drewN | apply below_drew1) | exact HB.out)⟩⟩
    · have hz : n = 0 := by omega
      have hq : acc = r := by rw [← HR.out, hz, playF_zero]
      have HQ := Aside0.mk hq
      clear hq hz
      go_wp2
      go_ret
      exact ⟨_, rfl, by rw [← HQ.out]; (with_reducible repeat (first | apply Kd.R_alloc | apply Kd.R_drewN | apply Kd.R_drew)); exact HO.out, by repeat (first | (with_reducible first | exact HB.out | apply below_alloc | apply pw_below_drewN | apply below_drew1) | exact HB.out)⟩

end Go.Proofs.Ytiahedkmlacpkaa.PrintA
