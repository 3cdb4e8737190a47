-- written by this session's own driver (wip/gen.py) with the kit's print and contracts of our own
import Derived.Test.YtiahedkmlacpkaaPrintZ0
import Derived.Test.YtiahedkmlacpkaaPrintZ1
import Derived.Test.YtiahedkmlacpkaaPrintZ9
namespace Go.Proofs.Ytiahedkmlacpkaa.PrintZ
open Go.RowKit Go.Proofs.YtiahedkmlacpkaaW.PrintWords Go.Proofs.YtiahedkmlacpkaaW.PrintLast Go.Proofs.YtiahedkmlacpkaaW.PrintMore
attribute [local go_sem] max2_int min2_int max_two min_two max_three min_three max_four min_four   -- for this text's walks alone
set_option linter.unusedVariables false
set_option linter.unusedSimpArgs false

/-! ### impl_play: function 41, a contract of our own -/
set_option maxHeartbeats 4000000 in
set_option maxRecDepth 100000 in
theorem best_calls (g e : Nat) (n : Int) (w : World) (he0 : 1 ≤ e) (he : e ≤ 10) (hn : 1 ≤ n) (hn2 : n ≤ 1000) (hR : IsReaches w g) :
    Calls Try.prog 43 #[.pointer (some ⟨g, 0, none⟩), .int .i64 e, .int .i64 n] w fun e' w' => e' = .returned (.int .i64 (bestF e n)) ∧ ∃ m, w' = w.drewN m := by
  have HF : Aside0 (∀ q, Calls Try.prog 73 #[.pointer (some ⟨g, 0, none⟩), .int .i64 e, .int .i64 n] (w.drewN q) fun e' w' => e' = .returned (.int .i64 (few e n)) ∧ w' = w.drewN q) :=
    ⟨fun q => (fewest_calls g e n (w.drewN q) he0 he ⟨hR.out⟩).mono fun _ _ h => ⟨h.1, h.2.symm⟩⟩
  obtain ⟨t, ht⟩ : ∃ t, few e n = t + 1 := ⟨few e n - 1, by have := few_pos e n hn; omega⟩
  have ht2 : t ≤ 999 := by have := few_le e n; omega
  have hx := hR.at_ t e (by omega) he
  have hb : bestF e n = max 1 (n - rch t e) := by unfold bestF; rw [ht]; rfl
  rw [ht] at HF
  rw [hb]
  have hr := rch_range t e
  clear hb ht hR
  generalize rch t e = y at hx hr ⊢
  have hz0 : (0 : Int) ≤ (e : Int) := by omega
  have hz1 : (e : Int) < 11 := by omega
  rcases (by omega : 1 < n - y ∨ n - y ≤ 1) with hm | hm
  case' inl => rw [show max 1 (n - y) = n - y by omega]
  case' inr => rw [show max 1 (n - y) = 1 by omega]
  all_goals
    go_enter Try.func43, Try.ntmps43
    go_wp2
    go_quiet (first | (go_at_call 73; refine Calls.quiet_of_same (HF.out _)))
    go_wp2
    go_ret
    exact ⟨rfl, _, rfl⟩
/-- The drops of a plan that drops first from F. -/
def playF (F : Nat → Int → Int) (b : Int) : Nat → Nat → Int → Int → List S56 → List S56
  | 0, _, _, _, acc => acc
  | k + 1, e, n, low, acc => if 0 < n then (if low + F e n > b then playF F b k (e - 1) (F e n - 1) low (acc ++ [⟨low + F e n, true⟩]) else playF F b k e (n - F e n) (low + F e n) (acc ++ [⟨low + F e n, false⟩])) else acc
theorem playF_zero (F : Nat → Int → Int) (b : Int) (k e : Nat) (low : Int) (acc) : playF F b k e 0 low acc = acc := by
  cases k <;> simp [playF]
set_option maxHeartbeats 8000000 in
set_option maxRecDepth 100000 in
theorem play_calls (gf : Nat) (fb lb : Array Value) (F : Nat → Int → Int) (e0 : Nat) (n0 b : Int) (w : World) (he : 1 ≤ e0) (he2 : e0 ≤ 10) (hn : 0 ≤ n0) (hn2 : n0 ≤ 1000) (hb0 : 0 ≤ b) (hb2 : b ≤ 1000)
    (eg : ∀ args w, (callFunc gf args).run Try.prog w = .ok (.enter gf args) w) (hF0 : ∀ e n, 1 ≤ n → 1 ≤ F e n ∧ F e n ≤ n) (hF1 : ∀ n, 1 ≤ n → n ≤ 1000 → F 1 n = 1)
    (hF : ∀ (W : World) (e : Nat) (n : Int), Below w.heap.size w W → 1 ≤ e → e ≤ 10 → 1 ≤ n → n ≤ 1000 → Calls Try.prog gf (fb ++ #[.int .i64 e, .int .i64 n] ++ lb) W fun e' w' => e' = .returned (.int .i64 (F e n)) ∧ Below W.heap.size W w') :
    Calls Try.prog 41 #[.int .i64 e0, .int .i64 n0, .int .i64 b, .func (.func gf) fb lb] w fun e' w' => ∃ v, e' = .returned v ∧ Kd.R k56 56 w' w.heap.size (fun _ => True) v (playF F b n0.toNat e0 n0 0 []) ∧ Below w.heap.size w w' := by
  have hu56 := Try.underlying56
  have HB := Aside0.mk (Below.refl w.heap.size w)
  have HF := Aside0.mk hF
  have HF0 := Aside0.mk hF0
  have HF1 := Aside0.mk hF1
  have EG := Aside0.mk eg
  clear hF hF0 hF1 eg
  generalize hr : playF F b n0.toNat e0 n0 0 [] = r
  have HR := Aside0.mk hr
  clear hr
  go_enter Try.func41, Try.ntmps41
  go_wp2_with ((with_reducible refine gate_dst (N := 13) rfl ?_); refine Kd.R_lit k56 _ 56 ?hg (N := 13) ?hd (xs := ([] : List S56)) (inner := []) (ok := fun _ => True) (okp := fun _ => True) ?hr ?hp (fun _ hk => hk) trivial (Below.refl _ _) (Nat.le_refl _) (by simp) ?_; (case hd => rfl); (case hg => rfl); (case hr => first | (go_simp; done) | (go_simp; rfl)); (case hp => exact (Reps.none _ _)); intro v113 w3 ho4 hb hg_ hnew_; clear hg_ hnew_; have n0_ := Aside0.mk (Kd.R_lower ho4 (below_size (by repeat (first | (with_reducible first | exact HB.out | apply below_alloc | apply pw_below_drewN | apply below_drew1) | exact HB.out)))); have n1_ := Aside0.mk (below_step (by repeat (first | (with_reducible first | exact HB.out | apply below_alloc | apply pw_below_drewN | apply below_drew1) | exact HB.out)) hb); clear HB; have HO := n0_; have HB := n1_; clear n0_ n1_; clear hb ho4)
  go_loopg [0, 1, 9, 10] n0.toNat (fun gg v0 v1 v9 v10 wr => ∃ (e : Nat) (n low : Int) (acc : List S56), v0 = .int .i64 e ∧ v1 = .int .i64 n ∧ v10 = .int .i64 low ∧ 0 ≤ n ∧ 0 ≤ low ∧ low + n ≤ 1000 ∧ e ≤ 10 ∧ Aside0 (0 < n → 1 ≤ e) ∧ Aside0 (n.toNat ≤ gg ∧ acc.length + n.toNat ≤ 1000) ∧ Aside0 (playF F b gg e n low acc = r) ∧ Aside0 (Kd.R k56 56 wr w.heap.size (fun _ => True) v9 acc) ∧ Aside0 (Below w.heap.size w wr))
  case atStart => exact ⟨e0, n0, 0, [], rfl, rfl, rfl, hn, by omega, by omega, he2, ⟨fun _ => he⟩, ⟨Nat.le_refl _, by simp; omega⟩, HR, HO, HB⟩
  case round =>
    clear HR HB HO
    obtain ⟨e, n, low, acc, rfl, rfl, rfl, hn', hl0, hln, he', HE, HM, HR, HO, HB⟩ := hrel
    by_cases hp : 0 < n
    · have he1 := HE.out hp
      obtain ⟨k, rfl⟩ : ∃ k, gk = k + 1 := ⟨gk - 1, by have := HM.out.1; omega⟩
      have hcall := HF.out
      have hrange := HF0.out e n (by omega)
      have h1 := HF1.out n (by omega) (by omega)
      have hr := HR.out
      rw [playF, if_pos hp] at hr
      have HEQ : Aside0 (e = 1 → F e n = 1) := ⟨fun h => by subst h; exact h1⟩
      have HC : Aside0 (∀ W, Below w.heap.size w W → Calls Try.prog gf (fb ++ #[.int .i64 e, .int .i64 n] ++ lb) W fun e' w' => e' = .returned (.int .i64 (F e n)) ∧ Below W.heap.size W w') :=
        ⟨fun W hW => hcall W e n hW he1 he' (by omega) (by omega)⟩
      clear hcall h1 HR
      generalize F e n = f at hrange hr HEQ HC
      by_cases hbr : low + f > b
      · rw [if_pos hbr] at hr
        obtain ⟨e', rfl⟩ : ∃ e', e = e' + 1 := ⟨e - 1, by omega⟩
        rw [Nat.add_sub_cancel] at hr
        have HR := Aside0.mk hr
        clear hr
        obtain ⟨acc2, h2⟩ : ∃ acc2, acc2 = acc ++ [(⟨low + f, true⟩ : S56)] := ⟨_, rfl⟩
        rw [← h2] at HR
        have Hy := Aside0.mk h2
        clear h2
        have hbd : decide (b < low + f) = true := decide_eq_true hbr
        go_wp2_with (first
          | ((with_reducible refine gate_dst (N := 19) rfl ?_); refine goesV_ (some 19) rfl rfl EG.out #[.int .i64 ((e' + 1 : Nat) : Int), .int .i64 n] rfl rfl (by (try simp only [List.map_toArray, List.map_cons, List.map_nil]); first | done | rfl) ?_; refine (HC.out _ (by repeat (first | (with_reducible first | exact HB.out | apply below_alloc | apply pw_below_drewN | apply below_drew1) | exact HB.out))).mono ?_; rintro e_ w9 ⟨rfl, hb⟩; refine ⟨_, rfl, ?_⟩; have n0_ := Aside0.mk (Kd.R_below (by (with_reducible repeat (first | apply Kd.R_alloc | apply Kd.R_drewN | apply Kd.R_drew)); exact HO.out) hb); have n2_ := Aside0.mk (below_step (by repeat (first | (with_reducible first | exact HB.out | apply below_alloc | apply pw_below_drewN | apply below_drew1) | exact HB.out)) hb); clear HO; clear HB; have HO := n0_; have HB := n2_; clear n0_ n2_; clear hb)
          | ((with_reducible refine gate_builtin (b := .append) (xs := #[.tmp 25, .tmp 31]) rfl ?_); at_builtin; refine Kd.R_append k56 (w0 := w) w.heap.size rfl (.tmp 25) (.tmp 31) 25 56 (.agg #[(.int .i64 0), (.bool false)]) 16 rfl Try.underlying25 info56 rfl (by decide) (by omega) _ acc (⟨low + f, true⟩ : S56) [.int .i64 (low + f), .bool true] (fun _ => True) (fun _ => False) rfl rfl ?aP (fun _ hk => hk.elim) ?aF ?aO ?aB ?aS ?aL ?_; (case aP => exact k56_mkM _ _ _ (⟨low + f, true⟩ : S56)); (case aB => exact (by repeat (first | (with_reducible first | exact HB.out | apply below_alloc | apply pw_below_drewN | apply below_drew1) | exact HB.out))); (case aF => exact (fun _ _ => trivial)); (case aO => exact (by (with_reducible repeat (first | apply Kd.R_alloc | apply Kd.R_drewN | apply Kd.R_drew)); exact HO.out)); (case aS => exact (below_size (by repeat (first | (with_reducible first | exact HB.out | apply below_alloc | apply pw_below_drewN | apply below_drew1) | exact HB.out)))); (case aL => have := HM.out.2; omega); intro v134 w11 ho hb hg hat; rw [← Hy.out] at ho; have n1_ := Aside0.mk (hb); have n2_ := Aside0.mk (ho); clear HB; clear HO; have HB := n1_; have HO := n2_; clear n1_ n2_; clear ho hb hg hat))
        go_roundg k
        case measure => omega
        case rel =>
          exact ⟨e', f - 1, low, acc2, by go_num, by go_num, rfl, by omega, by omega, by omega, by omega, ⟨fun h => by have := HEQ.out; omega⟩, ⟨by have := HM.out.1; omega, by have := HM.out.2; rw [Hy.out]; simp; omega⟩, HR, ⟨by (with_reducible repeat (first | apply Kd.R_alloc | apply Kd.R_drewN | apply Kd.R_drew)); exact HO.out⟩, ⟨by repeat (first | (with_reducible first | exact HB.out | apply below_alloc | apply pw_below_drewN | apply below_drew1) | exact HB.out)⟩⟩
      · rw [if_neg hbr] at hr
        have HR := Aside0.mk hr
        clear hr
        obtain ⟨acc2, h2⟩ : ∃ acc2, acc2 = acc ++ [(⟨low + f, false⟩ : S56)] := ⟨_, rfl⟩
        rw [← h2] at HR
        have Hy := Aside0.mk h2
        clear h2
        have hbd : decide (b < low + f) = false := decide_eq_false hbr
        go_wp2_with (first
          | ((with_reducible refine gate_dst (N := 19) rfl ?_); refine goesV_ (some 19) rfl rfl EG.out #[.int .i64 (e : Int), .int .i64 n] rfl rfl (by (try simp only [List.map_toArray, List.map_cons, List.map_nil]); first | done | rfl) ?_; refine (HC.out _ (by repeat (first | (with_reducible first | exact HB.out | apply below_alloc | apply pw_below_drewN | apply below_drew1) | exact HB.out))).mono ?_; rintro e_ w9 ⟨rfl, hb⟩; refine ⟨_, rfl, ?_⟩; have n0_ := Aside0.mk (Kd.R_below (by (with_reducible repeat (first | apply Kd.R_alloc | apply Kd.R_drewN | apply Kd.R_drew)); exact HO.out) hb); have n2_ := Aside0.mk (below_step (by repeat (first | (with_reducible first | exact HB.out | apply below_alloc | apply pw_below_drewN | apply below_drew1) | exact HB.out)) hb); clear HO; clear HB; have HO := n0_; have HB := n2_; clear n0_ n2_; clear hb)
          | ((with_reducible refine gate_builtin (b := .append) (xs := #[.tmp 25, .tmp 31]) rfl ?_); at_builtin; refine Kd.R_append k56 (w0 := w) w.heap.size rfl (.tmp 25) (.tmp 31) 25 56 (.agg #[(.int .i64 0), (.bool false)]) 16 rfl Try.underlying25 info56 rfl (by decide) (by omega) _ acc (⟨low + f, false⟩ : S56) [.int .i64 (low + f), .bool false] (fun _ => True) (fun _ => False) rfl rfl ?aP (fun _ hk => hk.elim) ?aF ?aO ?aB ?aS ?aL ?_; (case aP => exact k56_mkM _ _ _ (⟨low + f, false⟩ : S56)); (case aB => exact (by repeat (first | (with_reducible first | exact HB.out | apply below_alloc | apply pw_below_drewN | apply below_drew1) | exact HB.out))); (case aF => exact (fun _ _ => trivial)); (case aO => exact (by (with_reducible repeat (first | apply Kd.R_alloc | apply Kd.R_drewN | apply Kd.R_drew)); exact HO.out)); (case aS => exact (below_size (by repeat (first | (with_reducible first | exact HB.out | apply below_alloc | apply pw_below_drewN | apply below_drew1) | exact HB.out)))); (case aL => have := HM.out.2; omega); intro v134 w11 ho hb hg hat; rw [← Hy.out] at ho; have n1_ := Aside0.mk (hb); have n2_ := Aside0.mk (ho); clear HB; clear HO; have HB := n1_; have HO := n2_; clear n1_ n2_; clear ho hb hg hat))
        go_roundg k
        case measure => omega
        case rel =>
          exact ⟨e, n - f, low + f, acc2, by go_num, by go_num, by go_num, by omega, by omega, by omega, by omega, ⟨fun h => by omega⟩, ⟨by have := HM.out.1; omega, by have := HM.out.2; rw [Hy.out]; simp; omega⟩, HR, ⟨by (with_reducible repeat (first | apply Kd.R_alloc | apply Kd.R_drewN | apply Kd.R_drew)); exact HO.out⟩, ⟨by repeat (first | (with_reducible first | exact HB.out | apply below_alloc | apply pw_below_drewN | apply below_drew1) | exact HB.out)⟩⟩
    · have hz : n = 0 := by omega
      have hq : acc = r := by rw [← HR.out, hz, playF_zero]
      have HQ := Aside0.mk hq
      clear hq hz
      go_wp2
      go_ret
      exact ⟨_, rfl, by rw [← HQ.out]; (with_reducible repeat (first | apply Kd.R_alloc | apply Kd.R_drewN | apply Kd.R_drew)); exact HO.out, by repeat (first | (with_reducible first | exact HB.out | apply below_alloc | apply pw_below_drewN | apply below_drew1) | exact HB.out)⟩
theorem playF_len (F : Nat → Int → Int) (b : Int) : ∀ (k e : Nat) (n low : Int) (acc), (playF F b k e n low acc).length ≤ acc.length + k
  | 0, _, _, _, acc => by simp [playF]
  | k + 1, e, n, low, acc => by
    rw [playF]
    split
    · split
      · have := playF_len F b k (e - 1) (F e n - 1) low (acc ++ [⟨low + F e n, true⟩])
        simp at this; omega
      · have := playF_len F b k e (n - F e n) (low + F e n) (acc ++ [⟨low + F e n, false⟩])
        simp at this; omega
    · omega

/-! ### impl_isEggs: function 76 -/
def impl_isEggs.f (a0 : Int) : Option (Bool) := (impl_within.f a0 1 10).bind fun t164 => (some t164)
set_option maxHeartbeats 8000000 in
set_option maxRecDepth 100000 in
theorem impl_isEggs.calls (a0 : Int) (r : Bool) (w : World) (h : impl_isEggs.f a0 = some r) :
    Calls Try.prog 76 #[.int .i64 a0] w fun e w' => e = .returned (.bool r) ∧ Drawn0 w w' := by
  have H : ((impl_within.f a0 1 10).bind fun t164 => (some t164)) = some r := h
  clear h
  replace H := Option.bind_eq_some_iff.mp H
  obtain ⟨t164, A20, H⟩ := H
  replace H : (some t164) = some r := H
  have A2 := Aside0.mk A20
  clear A20
  obtain rfl := Option.some.inj H
  go_enter Try.func76, Try.ntmps76
  go_wp2_with (first | ((with_reducible refine gate_callee (f := 57) rfl ?_); refine goesL_ (some 4) rfl rfl Try.func57 (by kernel_rfl) rfl #[.int .i64 a0, .int .i64 1, .int .i64 10] rfl (by (try simp only [List.map_toArray, List.map_cons, List.map_nil]); first | done | rfl | (simp only [List.length_drop, List.length_take]; rfl)) ?_; (with_reducible refine (impl_within.calls0 a0 1 10 t164 _ A2.out).mono ?_); rintro e w' ⟨rfl, rfl⟩; refine ⟨_, rfl, ?_⟩))
  go_ret
  exact ⟨by first | rfl | (simp; done) | (simp [*]; done), by repeat (first | exact Drawn0.refl _ | apply Drawn0.step)⟩

set_option maxHeartbeats 8000000 in
set_option maxRecDepth 100000 in
theorem impl_isEggs.calls0 (a0 : Int) (r : Bool) (w : World) (h : impl_isEggs.f a0 = some r) :
    Calls Try.prog 76 #[.int .i64 a0] w fun e w' => e = .returned (.bool r) ∧ w = w' := by
  have H : ((impl_within.f a0 1 10).bind fun t164 => (some t164)) = some r := h
  clear h
  replace H := Option.bind_eq_some_iff.mp H
  obtain ⟨t164, A20, H⟩ := H
  replace H : (some t164) = some r := H
  have A2 := Aside0.mk A20
  clear A20
  obtain rfl := Option.some.inj H
  go_enter Try.func76, Try.ntmps76
  go_wp2_with (first | ((with_reducible refine gate_callee (f := 57) rfl ?_); refine goesL_ (some 4) rfl rfl Try.func57 (by kernel_rfl) rfl #[.int .i64 a0, .int .i64 1, .int .i64 10] rfl (by (try simp only [List.map_toArray, List.map_cons, List.map_nil]); first | done | rfl | (simp only [List.length_drop, List.length_take]; rfl)) ?_; (with_reducible refine (impl_within.calls0 a0 1 10 t164 _ A2.out).mono ?_); rintro e w' ⟨rfl, rfl⟩; refine ⟨_, rfl, ?_⟩))
  go_ret
  exact ⟨by first | rfl | (simp; done) | (simp [*]; done), by first | rfl | simp⟩

/-! behind impl_isEggs -/
theorem impl_isEggs_is (a : Int) : impl_isEggs.f a = some (decide (1 ≤ a) && decide (a ≤ 10)) := by unfold impl_isEggs.f; rw [impl_within_is]; rfl

/-! ### impl_AreWeights: function 88, a contract of our own -/
theorem areWeights_1 (w : World) : Tells 97 #[] (fun x : Int => .int .i64 x) (outIn 0 1000) w := fun W x hb => by
  have HB := Aside0.mk hb
  clear hb
  by_cases h1 : x ≥ 0 <;> by_cases h2 : x ≤ 1000
  all_goals
    have hC := impl_within.calls x 0 1000 (decide (0 ≤ x) && decide (x ≤ 1000)) W (by simp [impl_within.f, h1, h2])
    have HC := Aside0.mk hC
    clear hC
    go_enter Try.func97, Try.ntmps97
    go_wp2_with (go_at_call 57; refine (HC.out).mono ?_; rintro e w' ⟨rfl, ⟨nd, rfl⟩⟩)
    go_ret
    exact ⟨by simp [outIn] <;> omega, pw_below_drewN HB.out _⟩
def impl_AreWeights.f (l0 : List Int) : Option Bool := if l0.length ≤ 1000000000 then some ((decide (1 ≤ l0.length) && decide (l0.length ≤ 31)) && l0.all (fun x => decide (0 ≤ x) && decide (x ≤ 1000))) else none
set_option maxHeartbeats 2000000 in
theorem impl_AreWeights.calls (A0 : Option Addr) (c0 : Nat) (l0 : List Int) (r : Bool) (w : World) (hr0 : Kd.C (Kd.int .i64) w A0 l0.length l0) (hc0 : l0.length ≤ c0) (h : impl_AreWeights.f l0 = some r) :
    Calls Try.prog 88 #[.slice A0 l0.length c0] w fun e w' => e = .returned (.bool r) ∧ Below w.heap.size w w' := by
  unfold impl_AreWeights.f at h
  by_cases hl : l0.length ≤ 1000000000
  · rw [if_pos hl] at h
    have HH := Aside0.mk (Option.some.inj h)
    clear h
    have HL := Aside0.mk hl
    have HR := Aside0.mk hr0
    clear hr0 hc0
    by_cases h1 : (l0.length : Int) ≥ 1 ∧ (l0.length : Int) ≤ 31
    · have HW := Aside0.mk (impl_within.calls (l0.length : Int) 1 31 true w (by simp [impl_within.f, h1.1, h1.2]))
      have HI := Aside0.mk (fun W (hb : Below w.heap.size w W) => containsFunc_int 97 #[] _ A0 c0 l0 W (Kd.C_below HR.out hb) (by have := HL.out; omega) (enters_ Try.func97 (by kernel_rfl) rfl) (areWeights_1 W))
      have HFIN : Aside0 ((!(l0.any (outIn 0 1000))) = r) := ⟨by
        rw [← HH.out, decide_eq_true (by omega : 1 ≤ l0.length), decide_eq_true (by omega : l0.length ≤ 31), outIn_all]
        rfl⟩
      clear h1 hl
      go_enter Try.func88, Try.ntmps88
      go_wp2_with (first | (go_at_call 57; refine (HW.out).mono ?_; rintro e w' ⟨rfl, ⟨nd, rfl⟩⟩) | (go_at_call 55; refine (HI.out _ (pw_below_drewN (Below.refl _ _) _)).mono ?_; rintro e w' ⟨rfl, hb⟩))
      go_ret
      exact ⟨by rw [← HFIN.out]; rfl, below_step (pw_below_drewN (Below.refl _ _) nd) hb⟩
    · have HW := Aside0.mk (impl_within.calls (l0.length : Int) 1 31 false w (by simp [impl_within.f]; omega))
      have HFIN : Aside0 (false = r) := ⟨by
        rw [← HH.out]
        by_cases a : 1 ≤ l0.length
        · rw [decide_eq_false (by omega : ¬ l0.length ≤ 31)]; simp
        · rw [decide_eq_false a]; simp⟩
      clear h1 hl
      go_enter Try.func88, Try.ntmps88
      go_wp2_with (go_at_call 57; refine (HW.out).mono ?_; rintro e w' ⟨rfl, ⟨nd, rfl⟩⟩)
      go_ret
      exact ⟨by rw [← HFIN.out]; rfl, pw_below_drewN (Below.refl _ _) _⟩
  · rw [if_neg hl] at h
    exact absurd h (by simp)


/-! ### impl_isWeighed: function 64 -/
def impl_isWeighed.f (a0 : Int) (l1 : List Int) : Option (Bool) := (impl_isEggs.f a0).bind fun t165 => (if t165 = true then ((impl_AreWeights.f l1).bind fun t166 => (some t166)) else (some false))
set_option maxHeartbeats 8000000 in
set_option maxRecDepth 100000 in
theorem impl_isWeighed.calls (a0 : Int) (A1 : Option Addr) (c1 : Nat) (l1 : List Int) (r : Bool) (w : World) (hr1 : Kd.C (Kd.int .i64) w A1 l1.length l1) (hc1 : l1.length ≤ c1) (h : impl_isWeighed.f a0 l1 = some r) :
    Calls Try.prog 64 #[.int .i64 a0, .slice A1 l1.length c1] w fun e w' => e = .returned (.bool r) ∧ Below w.heap.size w w' := by
  have HR1 := Aside0.mk hr1
  have HC1 := Aside0.mk hc1
  clear hr1 hc1
  have HB := Aside0.mk (Below.refl w.heap.size w)
  have H : ((impl_isEggs.f a0).bind fun t165 => (if t165 = true then ((impl_AreWeights.f l1).bind fun t166 => (some t166)) else (some false))) = some r := h
  clear h
  replace H := Option.bind_eq_some_iff.mp H
  obtain ⟨t165, A30, H⟩ := H
  replace H : (if t165 = true then ((impl_AreWeights.f l1).bind fun t166 => (some t166)) else (some false)) = some r := H
  have A3 := Aside0.mk A30
  clear A30
  by_cases c4 : t165 = true
  · subst c4
    have H1 : ((impl_AreWeights.f l1).bind fun t166 => (some t166)) = some r := by rw [if_pos rfl] at H; exact H
    clear H
    have H := H1
    clear H1
    replace H := Option.bind_eq_some_iff.mp H
    obtain ⟨t166, A50, H⟩ := H
    replace H : (some t166) = some r := H
    have A5 := Aside0.mk A50
    clear A50
    obtain rfl := Option.some.inj H
    go_enter Try.func64, Try.ntmps64
    go_wp2_with (first | ((with_reducible refine gate_callee (f := 76) rfl ?_); refine goesL_ (some 6) rfl rfl Try.func76 (by kernel_rfl) rfl #[.int .i64 a0] rfl (by (try simp only [List.map_toArray, List.map_cons, List.map_nil]); first | done | rfl | (simp only [List.length_drop, List.length_take]; rfl)) ?_; (with_reducible refine (impl_isEggs.calls0 a0 true _ A3.out).mono ?_); rintro e w' ⟨rfl, rfl⟩; refine ⟨_, rfl, ?_⟩) | (go_at_call 88; (with_reducible refine (impl_AreWeights.calls _ _ l1 t166 _ ?side1 ?side2 A5.out).mono ?_); (case side1 => repeat (first | exact HR1.out | (with_reducible refine Kd.C_alloc ?_ _) | (with_reducible refine Kd.C_drewN ?_ _) | (with_reducible refine Kd.C_drew ?_))); (case side2 => exact HC1.out); rintro e w6 ⟨rfl, hb⟩; have n0_ := Aside0.mk (below_step (by repeat (first | (with_reducible first | exact HB.out | apply below_alloc | apply pw_below_drewN | apply below_drew1) | exact HB.out)) hb); clear HB; have HB := n0_; clear n0_; (try clear hb); (try clear hb2); (try clear hk); (try clear hi)))
    go_ret
    exact ⟨by first | rfl | (simp [errW_none, errW_some] <;> rfl) | (simp [*, errW_none, errW_some] <;> rfl), by repeat (first | (with_reducible first | exact HB.out | apply below_alloc | apply pw_below_drewN | apply below_drew1) | exact HB.out)⟩
  · replace c4 := Bool.eq_false_iff.mpr c4
    subst c4
    have H1 : (some false) = some r := by rw [if_neg (show ¬ (false = true) by decide)] at H; exact H
    clear H
    have H := H1
    clear H1
    obtain rfl := Option.some.inj H
    go_enter Try.func64, Try.ntmps64
    go_wp2_with (first | ((with_reducible refine gate_callee (f := 76) rfl ?_); refine goesL_ (some 6) rfl rfl Try.func76 (by kernel_rfl) rfl #[.int .i64 a0] rfl (by (try simp only [List.map_toArray, List.map_cons, List.map_nil]); first | done | rfl | (simp only [List.length_drop, List.length_take]; rfl)) ?_; (with_reducible refine (impl_isEggs.calls0 a0 false _ A3.out).mono ?_); rintro e w' ⟨rfl, rfl⟩; refine ⟨_, rfl, ?_⟩))
    go_ret
    exact ⟨by first | rfl | (simp [errW_none, errW_some] <;> rfl) | (simp [*, errW_none, errW_some] <;> rfl), by repeat (first | (with_reducible first | exact HB.out | apply below_alloc | apply pw_below_drewN | apply below_drew1) | exact HB.out)⟩

/-! behind impl_isWeighed -/
theorem impl_isWeighed_true (a : Int) (l : List Int) (h : impl_isWeighed.f a l = some true) : (1 ≤ a ∧ a ≤ 10) ∧ (1 ≤ l.length ∧ l.length ≤ 31) ∧ ∀ x ∈ l, 0 ≤ x ∧ x ≤ 1000 := by
  unfold impl_isWeighed.f at h
  rw [impl_isEggs_is, Option.bind_some] at h
  by_cases h1 : (decide (1 ≤ a) && decide (a ≤ 10)) = true
  · rw [if_pos h1] at h
    unfold impl_AreWeights.f at h
    by_cases h2 : l.length ≤ 1000000000
    · rw [if_pos h2, Option.bind_some] at h
      have h3 := Option.some.inj h
      simp only [Bool.and_eq_true, decide_eq_true_eq, List.all_eq_true] at h1 h3
      exact ⟨h1, h3.1, h3.2⟩
    · rw [if_neg h2] at h; cases h
  · rw [if_neg h1] at h; cases h

end Go.Proofs.Ytiahedkmlacpkaa.PrintZ
