-- written by this session's own driver (wip/gen.py) with the kit's print and contracts of our own
import Derived.Test.YtiahedkmlacpkaaPrintS0
import Derived.Laws.CopyOwn
namespace Go.Proofs.Ytiahedkmlacpkaa.PrintS
open Go.RowKit Go.Proofs.YtiahedkmlacpkaaLib Go.Proofs.YtiahedkmlacpkaaW.PrintWords Go.Proofs.YtiahedkmlacpkaaW.PrintLast Go.Proofs.YtiahedkmlacpkaaW.PrintMore
attribute [local go_sem] max2_int min2_int max_two min_two max_three min_three max_four min_four   -- for this text's walks alone
set_option linter.unusedVariables false
set_option linter.unusedSimpArgs false

/-! ### slices_Repeat_int_int: function 85, a contract of our own -/
-- SHELF math/bits.Mul
-- IMPORT Derived.Laws.CopyOwn
-- LIB Shares
theorem cp_run (w : World) (g o dLen dCap : Nat) (ad : Addr) (sLen sCap : Nat) (x : Int) (ty : Nat) (hmin : Nat.min sLen dLen = 1) (hsrc : w.cell? (ad.add 0) = some (.int .i64 x)) (hdst : ∃ v, w.cell? ⟨g, o, none⟩ = some v) (hf : w.frozen? ⟨g, o, none⟩ = false) :
    (Builtin.copy_ #[30, 30] ty #[.slice (some ⟨g, o, none⟩) dLen dCap, .slice (some ad) sLen sCap]).run Try.prog w = .ok (.int .i64 1) (w.setCell ⟨g, o, none⟩ (.int .i64 x)) := by
  have h := run_copy_cells (P := Try.prog) w 30 30 ty 3 g o dLen dCap ad sLen sCap [.int .i64 x] Try.underlying30 rfl (by rw [hmin]; rfl) (fun j v hv => by
    match j, hv with
    | 0, hv =>
      have := Option.some.inj hv
      rw [← this]; exact hsrc) (fun j hj => by
    obtain rfl : j = 0 := by simpa using hj
    obtain ⟨v, hv⟩ := hdst
    rw [Nat.add_zero, hv]; rfl) (fun j hj => by
    obtain rfl : j = 0 := by simpa using hj
    exact hf) (fun v hv => by
    rw [List.mem_singleton] at hv
    subst hv; rfl)
  exact h
theorem rep_first {W : World} {ad : Addr} {c g n c_ b ty : Nat} {e : Int} {ok : Nat → Prop} {xs : List Int} (hC : Kd.C (Kd.int .i64) W (some ad) 1 [e]) (hO : Kd.R (Kd.int .i64) 3 W b ok (.slice (some ⟨g, 0, none⟩) n c_) xs) (hn : 1 ≤ n) :
    (Builtin.copy_ #[30, 30] ty #[.slice (some ⟨g, 0, none⟩) n c_, .slice (some ad) 1 c]).run Try.prog W = .ok (.int .i64 1) (W.setCell ⟨g, 0, none⟩ (.int .i64 e)) := by
  obtain ⟨ad', hA, hx⟩ := Kd.at_int hC 0 (by decide) (by decide)
  obtain rfl := Option.some.inj hA
  obtain ⟨h1, h2⟩ := Kd.R_celln 0 hO 0 (by decide) (by omega)
  exact cp_run W g 0 n c_ ad 1 c e ty (by show min 1 n = 1; omega) hx ⟨_, h1⟩ h2
theorem rep_next {W : World} {g n c_ b ty k1 k2 i : Nat} {e : Int} {ok : Nat → Prop} {xs : List Int} (hO : Kd.R (Kd.int .i64) 3 W b ok (.slice (some ⟨g, 0, none⟩) n c_) xs) (h0 : 0 < i) (hi : i < n) (hmin : min i (n - i) = 1) (hx : xs.getD 0 0 = e) :
    (Builtin.copy_ #[30, 30] ty #[.slice (some ⟨g, i, none⟩) (n - i) k1, .slice (some ⟨g, 0, none⟩) i k2]).run Try.prog W = .ok (.int .i64 1) (W.setCell ⟨g, i, none⟩ (.int .i64 e)) := by
  obtain ⟨h1, _⟩ := Kd.R_celln 0 hO 0 (by decide) (by omega)
  obtain ⟨h3, h4⟩ := Kd.R_celln 0 hO (i : Int) (by omega) (by omega)
  rw [Int.toNat_natCast] at h3 h4
  have h5 : W.cell? ⟨g, 0, none⟩ = some (.int .i64 e) := by
    have h6 : rdOf 0 xs 0 = e := hx
    rw [h6] at h1
    exact h1
  exact cp_run W g i (n - i) k1 ⟨g, 0, none⟩ i k2 e ty hmin h5 ⟨_, h3⟩ h4
theorem rep_put {W : World} {g n c_ b i : Nat} {e : Int} {ok : Nat → Prop} {xs ys : List Int} (hO : Kd.R (Kd.int .i64) 3 W b ok (.slice (some ⟨g, 0, none⟩) n c_) xs) (hy : xs.set i e = ys) : Kd.R (Kd.int .i64) 3 (W.setCell ⟨g, i, none⟩ (.int .i64 e)) b ok (.slice (some ⟨g, 0, none⟩) n c_) ys := by
  have h := Kd.R_putn hO (i : Int) e
  rw [Int.toNat_natCast, hy] at h
  exact h
set_option maxHeartbeats 8000000 in
set_option maxRecDepth 100000 in
theorem repeat1 (e : Int) (A : Option Addr) (c : Nat) (w : World) (hC : Kd.C (Kd.int .i64) w A 1 [e]) :
    Calls Try.prog 85 #[.slice A 1 c, .int .i64 1] w fun e_ w' => ∃ g c', e_ = .returned (.slice (some ⟨g, 0, none⟩) 1 c') ∧ 1 ≤ c' ∧ Kd.C (Kd.int .i64) w' (some ⟨g, 0, none⟩) 1 [e] ∧ Below w.heap.size w w' := by
  obtain ⟨ad, rfl, _⟩ := Kd.at_int hC 0 (by decide) (by decide)
  have HC := Aside0.mk hC
  have HB := Aside0.mk (Below.refl w.heap.size w)
  have HML : Aside0 (∀ W : World, Calls Try.prog 96 #[.int .u64 1, .int .u64 1] W fun e_ w' => e_ = .returned (.tuple #[.int .u64 0, .int .u64 1]) ∧ W = w') := ⟨fun W => (Try.bits_Mul 1 1 (by decide) (by decide) W).mono (fun _ _ h => ⟨h.1, h.2.symm⟩)⟩
  clear hC
  go_enter Try.func85, Try.ntmps85
  go_wp2_with (first
    | (go_at_call 96; with_reducible refine (HML.out _).mono ?_; rintro e_ w_ ⟨rfl, rfl⟩)
    | ((with_reducible refine gate_dst (N := 30) rfl ?_); refine Kd.R_make (Kd.int .i64) _ 3 rfl (N := 30) rfl 30 _ _ rfl 1 rfl rfl Try.underlying30 (.int .i64 0) 8 info3 rfl (by decide) (by omega) 0 (ok := fun _ => True) (okp := fun _ => True) rfl (fun _ hk => hk) trivial (by decide) (by decide) (Below.refl _ _) (Nat.le_refl _) ?_; intro v_ w4 ho5 hb hg_ hnew_; clear hg_ hnew_; have n0_ := Aside0.mk (Kd.R_lower ho5 (below_size HB.out)); have n1_ := Aside0.mk (below_step HB.out hb); obtain ⟨g, c_, hv_, hg0, _⟩ := Kd.R_form ho5 (by decide); clear HB hb ho5; have HO := n0_; have HB := n1_; clear n0_ n1_; have GG := Aside0.mk hg0; subst hv_; have hcp : (Builtin.copy_ #[30, 30] 3 #[.slice (some ⟨g, 0, none⟩) 1 c_, .slice (some ad) 1 c]).run Try.prog w4 = .ok (.int .i64 1) (w4.setCell ⟨g, 0, none⟩ (.int .i64 e)) := rep_first (Kd.C_below HC.out HB.out) HO.out (by decide); clear hg0))
  have hcap := (Kd.R_reads' HO.out).2.1
  have n0_ := Aside0.mk (HB.out.setCell (p := ⟨g, 0, none⟩) GG.out (.int .i64 e))
  have n1_ : Aside0 (Kd.R (Kd.int .i64) 3 (w4.setCell ⟨g, 0, none⟩ (.int .i64 e)) w.heap.size (fun _ => True) (.slice (some ⟨g, 0, none⟩) 1 c_) [e]) := ⟨rep_put HO.out rfl⟩
  clear HB HO hcp
  have HB := n0_
  have HO := n1_
  clear n0_ n1_
  generalize w4.setCell ⟨g, 0, none⟩ (.int .i64 e) = w5 at HB HO ⊢
  go_loopg [8] 1 (fun gg v8 wr => ∃ (i : Nat), v8 = .int .i64 i ∧ ((i = 1 ∧ Aside0 (Kd.R (Kd.int .i64) 3 wr w.heap.size (fun _ => True) (.slice (some ⟨g, 0, none⟩) 1 c_) [e]))) ∧ 1 - i ≤ gg ∧ Aside0 (Below w.heap.size w wr))
  case atStart => exact ⟨1, rfl, ⟨rfl, HO⟩, by omega, HB⟩
  case round =>
    clear HB HO
    obtain ⟨i, rfl, hi, hgg, HB⟩ := hrel
    rcases hi with ⟨rfl, HO⟩
    · go_wp2
      go_ret
      exact ⟨g, c_, rfl, hcap, (Kd.R_reads' HO.out).2.2, HB.out⟩
set_option maxHeartbeats 8000000 in
set_option maxRecDepth 100000 in
theorem repeat2 (e : Int) (A : Option Addr) (c : Nat) (w : World) (hC : Kd.C (Kd.int .i64) w A 1 [e]) :
    Calls Try.prog 85 #[.slice A 1 c, .int .i64 2] w fun e_ w' => ∃ g c', e_ = .returned (.slice (some ⟨g, 0, none⟩) 2 c') ∧ 2 ≤ c' ∧ Kd.C (Kd.int .i64) w' (some ⟨g, 0, none⟩) 2 [e, e] ∧ Below w.heap.size w w' := by
  obtain ⟨ad, rfl, _⟩ := Kd.at_int hC 0 (by decide) (by decide)
  have HC := Aside0.mk hC
  have HB := Aside0.mk (Below.refl w.heap.size w)
  have HML : Aside0 (∀ W : World, Calls Try.prog 96 #[.int .u64 1, .int .u64 2] W fun e_ w' => e_ = .returned (.tuple #[.int .u64 0, .int .u64 2]) ∧ W = w') := ⟨fun W => (Try.bits_Mul 1 2 (by decide) (by decide) W).mono (fun _ _ h => ⟨h.1, h.2.symm⟩)⟩
  clear hC
  go_enter Try.func85, Try.ntmps85
  go_wp2_with (first
    | (go_at_call 96; with_reducible refine (HML.out _).mono ?_; rintro e_ w_ ⟨rfl, rfl⟩)
    | ((with_reducible refine gate_dst (N := 30) rfl ?_); refine Kd.R_make (Kd.int .i64) _ 3 rfl (N := 30) rfl 30 _ _ rfl 2 rfl rfl Try.underlying30 (.int .i64 0) 8 info3 rfl (by decide) (by omega) 0 (ok := fun _ => True) (okp := fun _ => True) rfl (fun _ hk => hk) trivial (by decide) (by decide) (Below.refl _ _) (Nat.le_refl _) ?_; intro v_ w4 ho5 hb hg_ hnew_; clear hg_ hnew_; have n0_ := Aside0.mk (Kd.R_lower ho5 (below_size HB.out)); have n1_ := Aside0.mk (below_step HB.out hb); obtain ⟨g, c_, hv_, hg0, _⟩ := Kd.R_form ho5 (by decide); clear HB hb ho5; have HO := n0_; have HB := n1_; clear n0_ n1_; have GG := Aside0.mk hg0; subst hv_; have hcp : (Builtin.copy_ #[30, 30] 3 #[.slice (some ⟨g, 0, none⟩) 2 c_, .slice (some ad) 1 c]).run Try.prog w4 = .ok (.int .i64 1) (w4.setCell ⟨g, 0, none⟩ (.int .i64 e)) := rep_first (Kd.C_below HC.out HB.out) HO.out (by decide); clear hg0))
  have hcap := (Kd.R_reads' HO.out).2.1
  have n0_ := Aside0.mk (HB.out.setCell (p := ⟨g, 0, none⟩) GG.out (.int .i64 e))
  have n1_ : Aside0 (Kd.R (Kd.int .i64) 3 (w4.setCell ⟨g, 0, none⟩ (.int .i64 e)) w.heap.size (fun _ => True) (.slice (some ⟨g, 0, none⟩) 2 c_) [e, 0]) := ⟨rep_put HO.out rfl⟩
  clear HB HO hcp
  have HB := n0_
  have HO := n1_
  clear n0_ n1_
  generalize w4.setCell ⟨g, 0, none⟩ (.int .i64 e) = w5 at HB HO ⊢
  go_loopg [8] 2 (fun gg v8 wr => ∃ (i : Nat), v8 = .int .i64 i ∧ ((i = 1 ∧ Aside0 (Kd.R (Kd.int .i64) 3 wr w.heap.size (fun _ => True) (.slice (some ⟨g, 0, none⟩) 2 c_) [e, 0])) ∨ (i = 2 ∧ Aside0 (Kd.R (Kd.int .i64) 3 wr w.heap.size (fun _ => True) (.slice (some ⟨g, 0, none⟩) 2 c_) [e, e]))) ∧ 2 - i ≤ gg ∧ Aside0 (Below w.heap.size w wr))
  case atStart => exact ⟨1, rfl, Or.inl ⟨rfl, HO⟩, by omega, HB⟩
  case round =>
    clear HB HO
    obtain ⟨i, rfl, hi, hgg, HB⟩ := hrel
    rcases hi with ⟨rfl, HO⟩ | ⟨rfl, HO⟩
    · have hcp : (Builtin.copy_ #[30, 30] 3 #[.slice (some ⟨g, 1, none⟩) 1 (c_ - 1), .slice (some ⟨g, 0, none⟩) 1 c_]).run Try.prog wr.drew = .ok (.int .i64 1) ((wr.drew).setCell ⟨g, 1, none⟩ (.int .i64 e)) := rep_next (Kd.R_drew HO.out) (by decide) (by decide) (by decide) rfl
      have hcap2 : 2 ≤ c_ := hcap
      have hcap3 : (1 : Int) ≤ (c_ : Int) := by omega
      have hcne : (c_ = 1) = False := eq_false (by omega)
      go_wp2
      refine start_ (n := 10) (S := fun w' => (Builtin.copy_ #[30, 30] 3 #[.slice (some ⟨g, 1, none⟩) 1 (c_ - 1), .slice (some ⟨g, 0, none⟩) 1 c_]).run Try.prog w' = .ok (.int .i64 1) ((wr.drew).setCell ⟨g, 1, none⟩ (.int .i64 e))) (ds := [7]) #[false, false, false, false, false, false, false, false, false, false] (by kernel_rfl) rfl rfl (hcp) (fun hHeld => ?_)
      refine pure_ (i := 0) (N := some 38) (v := ?_) (a' := ?_) #[true, false, false, false, false, false, false, false, false, false] rfl rfl (by kernel_rfl) (fun _ _ _ h => h) (Or.inl ⟨by rfl, ?_⟩) ?_ ?_
      rotate_left
      · intro w'
        go_simp
        with_reducible rfl
      rotate_left
      · simp only [Act.put, List.setIfInBounds_toArray, List.set_cons_zero, List.set_cons_succ, i64_w, i32_w]
        rfl
      refine pure_ (i := 1) (N := some 39) (v := ?_) (a' := ?_) #[true, true, false, false, false, false, false, false, false, false] rfl rfl (by kernel_rfl) (fun _ _ _ h => h) (Or.inl ⟨by rfl, ?_⟩) ?_ ?_
      rotate_left
      · intro w'
        go_simp
        with_reducible rfl
      rotate_left
      · simp only [Act.put, List.setIfInBounds_toArray, List.set_cons_zero, List.set_cons_succ, i64_w, i32_w]
        rfl
      refine pure_ (i := 2) (N := some 40) (v := ?_) (a' := ?_) #[true, true, true, false, false, false, false, false, false, false] rfl rfl (by kernel_rfl) (fun _ _ _ h => h) (Or.inl ⟨by rfl, ?_⟩) ?_ ?_
      rotate_left
      · intro w'
        go_simp
        with_reducible rfl
      rotate_left
      · simp only [Act.put, List.setIfInBounds_toArray, List.set_cons_zero, List.set_cons_succ, i64_w, i32_w]
        rfl
      refine pure_ (i := 3) (N := some 41) (v := ?_) (a' := ?_) #[true, true, true, true, false, false, false, false, false, false] rfl rfl (by kernel_rfl) (fun _ _ _ h => h) (Or.inl ⟨by rfl, ?_⟩) ?_ ?_
      rotate_left
      · intro w'
        go_simp
        with_reducible rfl
      rotate_left
      · simp only [Act.put, List.setIfInBounds_toArray, List.set_cons_zero, List.set_cons_succ, i64_w, i32_w]
        rfl
      refine pure_ (i := 4) (N := some 42) (v := ?_) (a' := ?_) #[true, true, true, true, true, false, false, false, false, false] rfl rfl (by kernel_rfl) (fun _ _ _ h => h) (Or.inl ⟨by rfl, ?_⟩) ?_ ?_
      rotate_left
      · intro w'
        go_simp
        with_reducible rfl
      rotate_left
      · simp only [Act.put, List.setIfInBounds_toArray, List.set_cons_zero, List.set_cons_succ, i64_w, i32_w]
        rfl
      refine pure_ (i := 5) (N := some 43) (v := ?_) (a' := ?_) #[true, true, true, true, true, true, false, false, false, false] rfl rfl (by kernel_rfl) (fun _ _ _ h => h) (Or.inl ⟨by rfl, ?_⟩) ?_ ?_
      rotate_left
      · intro w'
        go_simp
        with_reducible rfl
      rotate_left
      · simp only [Act.put, List.setIfInBounds_toArray, List.set_cons_zero, List.set_cons_succ, i64_w, i32_w]
        rfl
      refine pure_ (i := 6) (N := some 44) (v := ?_) (a' := ?_) #[true, true, true, true, true, true, true, false, false, false] rfl rfl (by kernel_rfl) (fun _ _ _ h => h) (Or.inl ⟨by rfl, ?_⟩) ?_ ?_
      rotate_left
      · intro w'
        go_simp
        with_reducible rfl
      rotate_left
      · simp only [Act.put, List.setIfInBounds_toArray, List.set_cons_zero, List.set_cons_succ, i64_w, i32_w]
        rfl
      refine last_ (i := 7) (N := some 45) #[true, true, true, true, true, true, true, true, false, false] rfl rfl (by kernel_rfl) (by decide) (fun K hK => ?_)
      refine value_ (w1 := ?_) (v := ?_) (by rfl) rfl ?_ ?_
      rotate_left 2
      · go_simp
        constructor
        · rfl
        · rfl
      refine hK.out _ _ ?_
      clear hK K
      refine norm_ (a' := ?_) ?_ ?_
      rotate_left
      · show Act.put _ (some 45) _ = _
        simp only [Act.put, List.setIfInBounds_toArray, List.set_cons_zero, List.set_cons_succ, i64_w, i32_w]
        rfl
      refine pure_ (i := 8) (N := some 46) (v := ?_) (a' := ?_) #[true, true, true, true, true, true, true, true, true, false] rfl rfl (by kernel_rfl) (fun _ _ _ h => h) (Or.inl ⟨by rfl, ?_⟩) ?_ ?_
      rotate_left
      · intro w'
        go_simp
        with_reducible rfl
      rotate_left
      · simp only [Act.put, List.setIfInBounds_toArray, List.set_cons_zero, List.set_cons_succ, i64_w, i32_w]
        rfl
      refine pure_ (i := 9) (N := some 8) (v := ?_) (a' := ?_) #[true, true, true, true, true, true, true, true, true, true] rfl rfl (by kernel_rfl) (fun _ _ _ h => h) (Or.inl ⟨by rfl, ?_⟩) ?_ ?_
      rotate_left
      · intro w'
        go_simp
        with_reducible rfl
      rotate_left
      · simp only [Act.put, List.setIfInBounds_toArray, List.set_cons_zero, List.set_cons_succ, i64_w, i32_w]
        rfl
      refine done_ (by kernel_rfl) ?_
      go_wp2
      go_roundg (2 - 2)
      case measure => omega
      case rel => exact ⟨2, by (have e_ : wrap64 2 = 2 := by unfold wrap64; omega); rw [e_]; rfl, Or.inr (⟨rfl, ⟨rep_put (Kd.R_drew HO.out) rfl⟩⟩), by omega, ⟨(HB.out.drew.setCell (p := ⟨g, 1, none⟩) GG.out (.int .i64 e))⟩⟩
    · go_wp2
      go_ret
      exact ⟨g, c_, rfl, hcap, (Kd.R_reads' HO.out).2.2, HB.out⟩
set_option maxHeartbeats 8000000 in
set_option maxRecDepth 100000 in
theorem repeat3 (e : Int) (A : Option Addr) (c : Nat) (w : World) (hC : Kd.C (Kd.int .i64) w A 1 [e]) :
    Calls Try.prog 85 #[.slice A 1 c, .int .i64 3] w fun e_ w' => ∃ g c', e_ = .returned (.slice (some ⟨g, 0, none⟩) 3 c') ∧ 3 ≤ c' ∧ Kd.C (Kd.int .i64) w' (some ⟨g, 0, none⟩) 3 [e, e, e] ∧ Below w.heap.size w w' := by
  obtain ⟨ad, rfl, _⟩ := Kd.at_int hC 0 (by decide) (by decide)
  have HC := Aside0.mk hC
  have HB := Aside0.mk (Below.refl w.heap.size w)
  have HML : Aside0 (∀ W : World, Calls Try.prog 96 #[.int .u64 1, .int .u64 3] W fun e_ w' => e_ = .returned (.tuple #[.int .u64 0, .int .u64 3]) ∧ W = w') := ⟨fun W => (Try.bits_Mul 1 3 (by decide) (by decide) W).mono (fun _ _ h => ⟨h.1, h.2.symm⟩)⟩
  clear hC
  go_enter Try.func85, Try.ntmps85
  go_wp2_with (first
    | (go_at_call 96; with_reducible refine (HML.out _).mono ?_; rintro e_ w_ ⟨rfl, rfl⟩)
    | ((with_reducible refine gate_dst (N := 30) rfl ?_); refine Kd.R_make (Kd.int .i64) _ 3 rfl (N := 30) rfl 30 _ _ rfl 3 rfl rfl Try.underlying30 (.int .i64 0) 8 info3 rfl (by decide) (by omega) 0 (ok := fun _ => True) (okp := fun _ => True) rfl (fun _ hk => hk) trivial (by decide) (by decide) (Below.refl _ _) (Nat.le_refl _) ?_; intro v_ w4 ho5 hb hg_ hnew_; clear hg_ hnew_; have n0_ := Aside0.mk (Kd.R_lower ho5 (below_size HB.out)); have n1_ := Aside0.mk (below_step HB.out hb); obtain ⟨g, c_, hv_, hg0, _⟩ := Kd.R_form ho5 (by decide); clear HB hb ho5; have HO := n0_; have HB := n1_; clear n0_ n1_; have GG := Aside0.mk hg0; subst hv_; have hcp : (Builtin.copy_ #[30, 30] 3 #[.slice (some ⟨g, 0, none⟩) 3 c_, .slice (some ad) 1 c]).run Try.prog w4 = .ok (.int .i64 1) (w4.setCell ⟨g, 0, none⟩ (.int .i64 e)) := rep_first (Kd.C_below HC.out HB.out) HO.out (by decide); clear hg0))
  have hcap := (Kd.R_reads' HO.out).2.1
  have n0_ := Aside0.mk (HB.out.setCell (p := ⟨g, 0, none⟩) GG.out (.int .i64 e))
  have n1_ : Aside0 (Kd.R (Kd.int .i64) 3 (w4.setCell ⟨g, 0, none⟩ (.int .i64 e)) w.heap.size (fun _ => True) (.slice (some ⟨g, 0, none⟩) 3 c_) [e, 0, 0]) := ⟨rep_put HO.out rfl⟩
  clear HB HO hcp
  have HB := n0_
  have HO := n1_
  clear n0_ n1_
  generalize w4.setCell ⟨g, 0, none⟩ (.int .i64 e) = w5 at HB HO ⊢
  go_loopg [8] 3 (fun gg v8 wr => ∃ (i : Nat), v8 = .int .i64 i ∧ ((i = 1 ∧ Aside0 (Kd.R (Kd.int .i64) 3 wr w.heap.size (fun _ => True) (.slice (some ⟨g, 0, none⟩) 3 c_) [e, 0, 0])) ∨ (i = 2 ∧ Aside0 (Kd.R (Kd.int .i64) 3 wr w.heap.size (fun _ => True) (.slice (some ⟨g, 0, none⟩) 3 c_) [e, e, 0])) ∨ (i = 3 ∧ Aside0 (Kd.R (Kd.int .i64) 3 wr w.heap.size (fun _ => True) (.slice (some ⟨g, 0, none⟩) 3 c_) [e, e, e]))) ∧ 3 - i ≤ gg ∧ Aside0 (Below w.heap.size w wr))
  case atStart => exact ⟨1, rfl, Or.inl ⟨rfl, HO⟩, by omega, HB⟩
  case round =>
    clear HB HO
    obtain ⟨i, rfl, hi, hgg, HB⟩ := hrel
    rcases hi with ⟨rfl, HO⟩ | ⟨rfl, HO⟩ | ⟨rfl, HO⟩
    · have hcp : (Builtin.copy_ #[30, 30] 3 #[.slice (some ⟨g, 1, none⟩) 2 (c_ - 1), .slice (some ⟨g, 0, none⟩) 1 c_]).run Try.prog wr.drew = .ok (.int .i64 1) ((wr.drew).setCell ⟨g, 1, none⟩ (.int .i64 e)) := rep_next (Kd.R_drew HO.out) (by decide) (by decide) (by decide) rfl
      have hcap2 : 3 ≤ c_ := hcap
      have hcap3 : (1 : Int) ≤ (c_ : Int) := by omega
      have hcne : (c_ = 1) = False := eq_false (by omega)
      go_wp2
      refine start_ (n := 10) (S := fun w' => (Builtin.copy_ #[30, 30] 3 #[.slice (some ⟨g, 1, none⟩) 2 (c_ - 1), .slice (some ⟨g, 0, none⟩) 1 c_]).run Try.prog w' = .ok (.int .i64 1) ((wr.drew).setCell ⟨g, 1, none⟩ (.int .i64 e))) (ds := [7]) #[false, false, false, false, false, false, false, false, false, false] (by kernel_rfl) rfl rfl (hcp) (fun hHeld => ?_)
      refine pure_ (i := 0) (N := some 38) (v := ?_) (a' := ?_) #[true, false, false, false, false, false, false, false, false, false] rfl rfl (by kernel_rfl) (fun _ _ _ h => h) (Or.inl ⟨by rfl, ?_⟩) ?_ ?_
      rotate_left
      · intro w'
        go_simp
        with_reducible rfl
      rotate_left
      · simp only [Act.put, List.setIfInBounds_toArray, List.set_cons_zero, List.set_cons_succ, i64_w, i32_w]
        rfl
      refine pure_ (i := 1) (N := some 39) (v := ?_) (a' := ?_) #[true, true, false, false, false, false, false, false, false, false] rfl rfl (by kernel_rfl) (fun _ _ _ h => h) (Or.inl ⟨by rfl, ?_⟩) ?_ ?_
      rotate_left
      · intro w'
        go_simp
        with_reducible rfl
      rotate_left
      · simp only [Act.put, List.setIfInBounds_toArray, List.set_cons_zero, List.set_cons_succ, i64_w, i32_w]
        rfl
      refine pure_ (i := 2) (N := some 40) (v := ?_) (a' := ?_) #[true, true, true, false, false, false, false, false, false, false] rfl rfl (by kernel_rfl) (fun _ _ _ h => h) (Or.inl ⟨by rfl, ?_⟩) ?_ ?_
      rotate_left
      · intro w'
        go_simp
        with_reducible rfl
      rotate_left
      · simp only [Act.put, List.setIfInBounds_toArray, List.set_cons_zero, List.set_cons_succ, i64_w, i32_w]
        rfl
      refine pure_ (i := 3) (N := some 41) (v := ?_) (a' := ?_) #[true, true, true, true, false, false, false, false, false, false] rfl rfl (by kernel_rfl) (fun _ _ _ h => h) (Or.inl ⟨by rfl, ?_⟩) ?_ ?_
      rotate_left
      · intro w'
        go_simp
        with_reducible rfl
      rotate_left
      · simp only [Act.put, List.setIfInBounds_toArray, List.set_cons_zero, List.set_cons_succ, i64_w, i32_w]
        rfl
      refine pure_ (i := 4) (N := some 42) (v := ?_) (a' := ?_) #[true, true, true, true, true, false, false, false, false, false] rfl rfl (by kernel_rfl) (fun _ _ _ h => h) (Or.inl ⟨by rfl, ?_⟩) ?_ ?_
      rotate_left
      · intro w'
        go_simp
        with_reducible rfl
      rotate_left
      · simp only [Act.put, List.setIfInBounds_toArray, List.set_cons_zero, List.set_cons_succ, i64_w, i32_w]
        rfl
      refine pure_ (i := 5) (N := some 43) (v := ?_) (a' := ?_) #[true, true, true, true, true, true, false, false, false, false] rfl rfl (by kernel_rfl) (fun _ _ _ h => h) (Or.inl ⟨by rfl, ?_⟩) ?_ ?_
      rotate_left
      · intro w'
        go_simp
        with_reducible rfl
      rotate_left
      · simp only [Act.put, List.setIfInBounds_toArray, List.set_cons_zero, List.set_cons_succ, i64_w, i32_w]
        rfl
      refine pure_ (i := 6) (N := some 44) (v := ?_) (a' := ?_) #[true, true, true, true, true, true, true, false, false, false] rfl rfl (by kernel_rfl) (fun _ _ _ h => h) (Or.inl ⟨by rfl, ?_⟩) ?_ ?_
      rotate_left
      · intro w'
        go_simp
        with_reducible rfl
      rotate_left
      · simp only [Act.put, List.setIfInBounds_toArray, List.set_cons_zero, List.set_cons_succ, i64_w, i32_w]
        rfl
      refine last_ (i := 7) (N := some 45) #[true, true, true, true, true, true, true, true, false, false] rfl rfl (by kernel_rfl) (by decide) (fun K hK => ?_)
      refine value_ (w1 := ?_) (v := ?_) (by rfl) rfl ?_ ?_
      rotate_left 2
      · go_simp
        constructor
        · rfl
        · rfl
      refine hK.out _ _ ?_
      clear hK K
      refine norm_ (a' := ?_) ?_ ?_
      rotate_left
      · show Act.put _ (some 45) _ = _
        simp only [Act.put, List.setIfInBounds_toArray, List.set_cons_zero, List.set_cons_succ, i64_w, i32_w]
        rfl
      refine pure_ (i := 8) (N := some 46) (v := ?_) (a' := ?_) #[true, true, true, true, true, true, true, true, true, false] rfl rfl (by kernel_rfl) (fun _ _ _ h => h) (Or.inl ⟨by rfl, ?_⟩) ?_ ?_
      rotate_left
      · intro w'
        go_simp
        with_reducible rfl
      rotate_left
      · simp only [Act.put, List.setIfInBounds_toArray, List.set_cons_zero, List.set_cons_succ, i64_w, i32_w]
        rfl
      refine pure_ (i := 9) (N := some 8) (v := ?_) (a' := ?_) #[true, true, true, true, true, true, true, true, true, true] rfl rfl (by kernel_rfl) (fun _ _ _ h => h) (Or.inl ⟨by rfl, ?_⟩) ?_ ?_
      rotate_left
      · intro w'
        go_simp
        with_reducible rfl
      rotate_left
      · simp only [Act.put, List.setIfInBounds_toArray, List.set_cons_zero, List.set_cons_succ, i64_w, i32_w]
        rfl
      refine done_ (by kernel_rfl) ?_
      go_wp2
      go_roundg (3 - 2)
      case measure => omega
      case rel => exact ⟨2, by (have e_ : wrap64 2 = 2 := by unfold wrap64; omega); rw [e_]; rfl, Or.inr (Or.inl ⟨rfl, ⟨rep_put (Kd.R_drew HO.out) rfl⟩⟩), by omega, ⟨(HB.out.drew.setCell (p := ⟨g, 1, none⟩) GG.out (.int .i64 e))⟩⟩
    · have hcp : (Builtin.copy_ #[30, 30] 3 #[.slice (some ⟨g, 2, none⟩) 1 (c_ - 2), .slice (some ⟨g, 0, none⟩) 2 c_]).run Try.prog wr.drew = .ok (.int .i64 1) ((wr.drew).setCell ⟨g, 2, none⟩ (.int .i64 e)) := rep_next (Kd.R_drew HO.out) (by decide) (by decide) (by decide) rfl
      have hcap2 : 3 ≤ c_ := hcap
      have hcap3 : (2 : Int) ≤ (c_ : Int) := by omega
      have hcne : (c_ = 2) = False := eq_false (by omega)
      go_wp2
      refine start_ (n := 10) (S := fun w' => (Builtin.copy_ #[30, 30] 3 #[.slice (some ⟨g, 2, none⟩) 1 (c_ - 2), .slice (some ⟨g, 0, none⟩) 2 c_]).run Try.prog w' = .ok (.int .i64 1) ((wr.drew).setCell ⟨g, 2, none⟩ (.int .i64 e))) (ds := [7]) #[false, false, false, false, false, false, false, false, false, false] (by kernel_rfl) rfl rfl (hcp) (fun hHeld => ?_)
      refine pure_ (i := 0) (N := some 38) (v := ?_) (a' := ?_) #[true, false, false, false, false, false, false, false, false, false] rfl rfl (by kernel_rfl) (fun _ _ _ h => h) (Or.inl ⟨by rfl, ?_⟩) ?_ ?_
      rotate_left
      · intro w'
        go_simp
        with_reducible rfl
      rotate_left
      · simp only [Act.put, List.setIfInBounds_toArray, List.set_cons_zero, List.set_cons_succ, i64_w, i32_w]
        rfl
      refine pure_ (i := 1) (N := some 39) (v := ?_) (a' := ?_) #[true, true, false, false, false, false, false, false, false, false] rfl rfl (by kernel_rfl) (fun _ _ _ h => h) (Or.inl ⟨by rfl, ?_⟩) ?_ ?_
      rotate_left
      · intro w'
        go_simp
        with_reducible rfl
      rotate_left
      · simp only [Act.put, List.setIfInBounds_toArray, List.set_cons_zero, List.set_cons_succ, i64_w, i32_w]
        rfl
      refine pure_ (i := 2) (N := some 40) (v := ?_) (a' := ?_) #[true, true, true, false, false, false, false, false, false, false] rfl rfl (by kernel_rfl) (fun _ _ _ h => h) (Or.inl ⟨by rfl, ?_⟩) ?_ ?_
      rotate_left
      · intro w'
        go_simp
        with_reducible rfl
      rotate_left
      · simp only [Act.put, List.setIfInBounds_toArray, List.set_cons_zero, List.set_cons_succ, i64_w, i32_w]
        rfl
      refine pure_ (i := 3) (N := some 41) (v := ?_) (a' := ?_) #[true, true, true, true, false, false, false, false, false, false] rfl rfl (by kernel_rfl) (fun _ _ _ h => h) (Or.inl ⟨by rfl, ?_⟩) ?_ ?_
      rotate_left
      · intro w'
        go_simp
        with_reducible rfl
      rotate_left
      · simp only [Act.put, List.setIfInBounds_toArray, List.set_cons_zero, List.set_cons_succ, i64_w, i32_w]
        rfl
      refine pure_ (i := 4) (N := some 42) (v := ?_) (a' := ?_) #[true, true, true, true, true, false, false, false, false, false] rfl rfl (by kernel_rfl) (fun _ _ _ h => h) (Or.inl ⟨by rfl, ?_⟩) ?_ ?_
      rotate_left
      · intro w'
        go_simp
        with_reducible rfl
      rotate_left
      · simp only [Act.put, List.setIfInBounds_toArray, List.set_cons_zero, List.set_cons_succ, i64_w, i32_w]
        rfl
      refine pure_ (i := 5) (N := some 43) (v := ?_) (a' := ?_) #[true, true, true, true, true, true, false, false, false, false] rfl rfl (by kernel_rfl) (fun _ _ _ h => h) (Or.inl ⟨by rfl, ?_⟩) ?_ ?_
      rotate_left
      · intro w'
        go_simp
        with_reducible rfl
      rotate_left
      · simp only [Act.put, List.setIfInBounds_toArray, List.set_cons_zero, List.set_cons_succ, i64_w, i32_w]
        rfl
      refine pure_ (i := 6) (N := some 44) (v := ?_) (a' := ?_) #[true, true, true, true, true, true, true, false, false, false] rfl rfl (by kernel_rfl) (fun _ _ _ h => h) (Or.inl ⟨by rfl, ?_⟩) ?_ ?_
      rotate_left
      · intro w'
        go_simp
        with_reducible rfl
      rotate_left
      · simp only [Act.put, List.setIfInBounds_toArray, List.set_cons_zero, List.set_cons_succ, i64_w, i32_w]
        rfl
      refine last_ (i := 7) (N := some 45) #[true, true, true, true, true, true, true, true, false, false] rfl rfl (by kernel_rfl) (by decide) (fun K hK => ?_)
      refine value_ (w1 := ?_) (v := ?_) (by rfl) rfl ?_ ?_
      rotate_left 2
      · go_simp
        constructor
        · rfl
        · rfl
      refine hK.out _ _ ?_
      clear hK K
      refine norm_ (a' := ?_) ?_ ?_
      rotate_left
      · show Act.put _ (some 45) _ = _
        simp only [Act.put, List.setIfInBounds_toArray, List.set_cons_zero, List.set_cons_succ, i64_w, i32_w]
        rfl
      refine pure_ (i := 8) (N := some 46) (v := ?_) (a' := ?_) #[true, true, true, true, true, true, true, true, true, false] rfl rfl (by kernel_rfl) (fun _ _ _ h => h) (Or.inl ⟨by rfl, ?_⟩) ?_ ?_
      rotate_left
      · intro w'
        go_simp
        with_reducible rfl
      rotate_left
      · simp only [Act.put, List.setIfInBounds_toArray, List.set_cons_zero, List.set_cons_succ, i64_w, i32_w]
        rfl
      refine pure_ (i := 9) (N := some 8) (v := ?_) (a' := ?_) #[true, true, true, true, true, true, true, true, true, true] rfl rfl (by kernel_rfl) (fun _ _ _ h => h) (Or.inl ⟨by rfl, ?_⟩) ?_ ?_
      rotate_left
      · intro w'
        go_simp
        with_reducible rfl
      rotate_left
      · simp only [Act.put, List.setIfInBounds_toArray, List.set_cons_zero, List.set_cons_succ, i64_w, i32_w]
        rfl
      refine done_ (by kernel_rfl) ?_
      go_wp2
      go_roundg (3 - 3)
      case measure => omega
      case rel => exact ⟨3, by (have e_ : wrap64 3 = 3 := by unfold wrap64; omega); rw [e_]; rfl, Or.inr (Or.inr (⟨rfl, ⟨rep_put (Kd.R_drew HO.out) rfl⟩⟩)), by omega, ⟨(HB.out.drew.setCell (p := ⟨g, 2, none⟩) GG.out (.int .i64 e))⟩⟩
    · go_wp2
      go_ret
      exact ⟨g, c_, rfl, hcap, (Kd.R_reads' HO.out).2.2, HB.out⟩

end Go.Proofs.Ytiahedkmlacpkaa.PrintS
