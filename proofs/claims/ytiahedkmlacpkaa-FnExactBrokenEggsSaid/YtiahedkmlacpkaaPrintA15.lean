-- written by this session's own driver (wip/gen.py) with the kit's print and contracts of our own
import Derived.Test.YtiahedkmlacpkaaPrintA0
import Derived.Test.YtiahedkmlacpkaaPrintA3
import Derived.Test.YtiahedkmlacpkaaPrintA6
import Derived.Test.YtiahedkmlacpkaaPrintA13
import Derived.Test.YtiahedkmlacpkaaPrintA14
import Derived.Test.YtiahedkmlacpkaaPrintA19
namespace Go.Proofs.Ytiahedkmlacpkaa.PrintA
open Go.RowKit Go.Proofs.YtiahedkmlacpkaaW.PrintWords Go.Proofs.YtiahedkmlacpkaaW.PrintLast Go.Proofs.YtiahedkmlacpkaaW.PrintMore
attribute [local go_sem] max2_int min2_int max_two min_two max_three min_three max_four min_four   -- for this text's walks alone
set_option linter.unusedVariables false
set_option linter.unusedSimpArgs false

/-! behind spec_flPlay -/
theorem spec_flPlay_l0 (b : Int) (hb : 0 ≤ b) (hb2 : b ≤ 1000) : ∀ (d k e : Nat) (low high : Int) (acc : List S56), 0 ≤ low → low ≤ high → high ≤ 1000 → e ≤ 10 → (low < high → 1 ≤ e) → (high - low) ≤ d → 20000 + d < k → acc.length + d ≤ 1000000 →
    spec_flPlay.l0 k e b low high acc = some (playF bestF b d e (high - low) low acc) := by
  intro d
  induction d with
  | zero =>
    intro k e low high acc h0 h1 h2 h3 h4 hd hk ha
    obtain ⟨k, rfl⟩ : ∃ m, k = m + 1 := ⟨k - 1, by omega⟩
    rw [spec_flPlay.l0, if_neg (by omega)]; rfl
  | succ d ih =>
    intro k e low high acc h0 h1 h2 h3 h4 hd hk ha
    obtain ⟨k, rfl⟩ : ∃ m, k = m + 1 := ⟨k - 1, by omega⟩
    by_cases hlt : low < high
    · have he1 := h4 hlt
      obtain ⟨r, hr, hr1, hr2⟩ := spec_flGood_is e (high - low) h3 he1 (by omega) (by omega) k (by omega)
      have hg := bestF_range e (high - low) (by omega)
      have hg1 := bestF_one (high - low) (by omega) (by omega)
      have hge : e = 1 → bestF e (high - low) = 1 := fun h => by subst h; exact hg1
      have e1 : wrap64 (high - low) = high - low := by unfold wrap64; omega
      rw [spec_flPlay.l0, if_pos hlt, e1, hr, Option.bind_some, if_pos (by omega), if_pos (by omega), hr2, playF, if_pos (by omega)]
      clear hr hr1 hr2 hg1
      generalize bestF e (high - low) = f at hg hge
      have e2 : wrap64 (low + f) = low + f := by unfold wrap64; omega
      have e3 : wrap64 ((low + f) - 1) = low + f - 1 := by unfold wrap64; omega
      obtain ⟨e', rfl⟩ : ∃ e', e = e' + 1 := ⟨e - 1, by omega⟩
      have e4 : wrap64 (((e' + 1 : Nat) : Int) - 1) = (e' : Int) := by unfold wrap64; omega
      rw [Option.bind_some, e2, e3, e4]
      by_cases hbr : low + f > b
      · rw [if_pos hbr, if_pos hbr, decide_eq_true hbr, Nat.add_sub_cancel, ih k e' low (low + f - 1) _ (by omega) (by omega) (by omega) (by omega) (by omega) (by omega) (by omega) (by simp; omega)]
        rw [show low + f - 1 - low = f - 1 by omega]
      · rw [if_neg hbr, if_neg hbr, decide_eq_false hbr, ih k (e' + 1) (low + f) high _ (by omega) (by omega) (by omega) (by omega) (by omega) (by omega) (by omega) (by simp; omega)]
        rw [show high - (low + f) = high - low - f by omega]
    · rw [spec_flPlay.l0, if_neg hlt, show high - low = 0 by omega, playF_zero]
theorem spec_flPlay_is (e : Nat) (n b : Int) (h1 : 1 ≤ e) (h2 : e ≤ 10) (h3 : 0 ≤ n) (h4 : n ≤ 1000) (h5 : 0 ≤ b) (h6 : b ≤ 1000) (k : Nat) (hk : 30000 ≤ k) : spec_flPlay.f k e n b = some (playF bestF b n.toNat e n 0 []) := by
  unfold spec_flPlay.f
  rw [spec_flPlay_l0 b h5 h6 n.toNat k e 0 n [] (by omega) (by omega) (by omega) h2 (by omega) (by omega) (by omega) (by simp; omega), Int.sub_zero]
theorem playF_len (F : Nat → Int → Int) (b : Int) : ∀ (k e : Nat) (n low : Int) (acc), (playF F b k e n low acc).length ≤ acc.length + k
  | 0, _, _, _, acc => by simp [playF]
  | k + 1, e, n, low, acc => by
    rw [playF]
    split
    · split
      · have := playF_len F b k (e - 1) (F e n - 1) low (acc ++ [⟨low + F e n, true⟩])
        simp at this; omega
      · have := playF_len F b k e (n - F e n) (low + F e n) (acc ++ [⟨low + F e n, false⟩])
        simp at this; omega
    · omega


/-! ### spec_CountDrops: function 11 -/
def spec_CountDrops.f (k : Nat) (a0 : Int) (a1 : Int) (a2 : Int) : Option (Int × Bool) := (spec_flAsked.f a0 a1 a2).bind fun t136 => (if t136 = true then ((spec_flPlay.f k a0 a1 a2).bind fun t137 => (some ((t137.length : Int), true))) else (some (0, false)))
theorem spec_CountDrops.mono : ∀ a0 a1 a2 k, LeO (spec_CountDrops.f k a0 a1 a2) (spec_CountDrops.f (k + 1) a0 a1 a2) := by
  intro a0 a1 a2 k
  unfold spec_CountDrops.f
  repeat' first
      | (with_reducible exact spec_flPlay.mono _ _ _ _)
      | (with_reducible exact LeO.refl _)
      | (with_reducible exact LeO.none _)
      | (with_reducible refine LeO.ite ?_ ?_)
      | (with_reducible refine LeO.bind ?_ (fun _ => ?_))
      | exact spec_flPlay.mono _ _ _ _
      | exact LeO.none _
      | refine LeO.ite ?_ ?_
      | refine LeO.bind ?_ (fun _ => ?_)
set_option maxHeartbeats 8000000 in
set_option maxRecDepth 100000 in
theorem spec_CountDrops.calls (k : Nat) (a0 : Int) (a1 : Int) (a2 : Int) (r1 : Int) (r2 : Bool) (w : World) (h : spec_CountDrops.f k a0 a1 a2 = some (r1, r2)) :
    Calls Try.prog 11 #[.int .i64 a0, .int .i64 a1, .int .i64 a2] w fun e w' => e = .returned (.tuple #[.int .i64 r1, .bool r2]) ∧ Below w.heap.size w w' := by
  have HB := Aside0.mk (Below.refl w.heap.size w)
  have H : ((spec_flAsked.f a0 a1 a2).bind fun t136 => (if t136 = true then ((spec_flPlay.f k a0 a1 a2).bind fun t137 => (some ((t137.length : Int), true))) else (some (0, false)))) = some (r1, r2) := h
  clear h
  replace H := Option.bind_eq_some_iff.mp H
  obtain ⟨t136, A40, H⟩ := H
  replace H : (if t136 = true then ((spec_flPlay.f k a0 a1 a2).bind fun t137 => (some ((t137.length : Int), true))) else (some (0, false))) = some (r1, r2) := H
  have A4 := Aside0.mk A40
  clear A40
  by_cases c5 : t136 = true
  · subst c5
    have H1 : ((spec_flPlay.f k a0 a1 a2).bind fun t137 => (some ((t137.length : Int), true))) = some (r1, r2) := by rw [if_pos rfl] at H; exact H
    clear H
    have H := H1
    clear H1
    replace H := Option.bind_eq_some_iff.mp H
    obtain ⟨t137, A60, H⟩ := H
    replace H : (some ((t137.length : Int), true)) = some (r1, r2) := H
    have A6 := Aside0.mk A60
    clear A60
    simp only [Option.some.injEq, Prod.mk.injEq] at H
    obtain ⟨rfl, rfl⟩ := H
    go_enter Try.func11, Try.ntmps11
    go_wp2_with (first | ((with_reducible refine gate_callee (f := 36) rfl ?_); refine goesL_ (some 11) rfl rfl Try.func36 (by kernel_rfl) rfl #[.int .i64 a0, .int .i64 a1, .int .i64 a2] rfl (by (try simp only [List.map_toArray, List.map_cons, List.map_nil]); first | done | rfl | (simp only [List.length_drop, List.length_take]; rfl)) ?_; (with_reducible refine (spec_flAsked.calls0 a0 a1 a2 true _ A4.out).mono ?_); rintro e w' ⟨rfl, rfl⟩; refine ⟨_, rfl, ?_⟩) | ((with_reducible refine gate_callee (f := 37) rfl ?_); refine goesL_ (some 16) rfl rfl Try.func37 (by kernel_rfl) rfl #[.int .i64 a0, .int .i64 a1, .int .i64 a2] rfl (by (try simp only [List.map_toArray, List.map_cons, List.map_nil]); first | done | rfl | (simp only [List.length_drop, List.length_take]; rfl)) ?_; (with_reducible refine (spec_flPlay.calls k a0 a1 a2 t137 _ A6.out).mono ?_); rintro e w7 ⟨v138, rfl, ho0, hb⟩; refine ⟨_, rfl, ?_⟩; have n0_ := Aside0.mk (Kd.R_lower ho0 (below_size (by repeat (first | (with_reducible first | exact HB.out | apply below_alloc | apply pw_below_drewN | apply below_drew1) | exact HB.out)))); have n1_ := Aside0.mk (below_step (by repeat (first | (with_reducible first | exact HB.out | apply below_alloc | apply pw_below_drewN | apply below_drew1) | exact HB.out)) hb); clear HB; have HO139 := n0_; have HB := n1_; clear n0_ n1_; (try clear hb); (try clear hb2); (try clear hk); (try clear hi); (try clear ho0); obtain ⟨Ao8, co8, eo8⟩ := Kd.R_slice HO139.out; subst eo8))
    go_ret2
    exact ⟨by first | rfl | (simp [errW_none, errW_some] <;> rfl) | (simp [*, errW_none, errW_some] <;> rfl), by repeat (first | (with_reducible first | exact HB.out | apply below_alloc | apply pw_below_drewN | apply below_drew1) | exact HB.out)⟩
  · replace c5 := Bool.eq_false_iff.mpr c5
    subst c5
    have H1 : (some (0, false)) = some (r1, r2) := by rw [if_neg (show ¬ (false = true) by decide)] at H; exact H
    clear H
    have H := H1
    clear H1
    simp only [Option.some.injEq, Prod.mk.injEq] at H
    obtain ⟨rfl, rfl⟩ := H
    go_enter Try.func11, Try.ntmps11
    go_wp2_with (first | ((with_reducible refine gate_callee (f := 36) rfl ?_); refine goesL_ (some 11) rfl rfl Try.func36 (by kernel_rfl) rfl #[.int .i64 a0, .int .i64 a1, .int .i64 a2] rfl (by (try simp only [List.map_toArray, List.map_cons, List.map_nil]); first | done | rfl | (simp only [List.length_drop, List.length_take]; rfl)) ?_; (with_reducible refine (spec_flAsked.calls0 a0 a1 a2 false _ A4.out).mono ?_); rintro e w' ⟨rfl, rfl⟩; refine ⟨_, rfl, ?_⟩))
    go_ret2
    exact ⟨by first | rfl | (simp [errW_none, errW_some] <;> rfl) | (simp [*, errW_none, errW_some] <;> rfl), by repeat (first | (with_reducible first | exact HB.out | apply below_alloc | apply pw_below_drewN | apply below_drew1) | exact HB.out)⟩

end Go.Proofs.Ytiahedkmlacpkaa.PrintA
