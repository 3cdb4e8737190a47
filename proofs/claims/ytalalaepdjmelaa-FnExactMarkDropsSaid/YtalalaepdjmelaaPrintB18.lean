-- written by this session's own driver (wip/gen.py) with the kit's print and contracts of our own
import Derived.Test.YtalalaepdjmelaaPrintB0
import Derived.Test.YtalalaepdjmelaaPrintB9
import Derived.Test.YtalalaepdjmelaaPrintB12
import Derived.Test.YtalalaepdjmelaaPrintB14
import Derived.Test.YtalalaepdjmelaaPrintB17
namespace Go.Proofs.Ytalalaepdjmelaa.PrintB
open Go.RowKit Go.Proofs.YtalalaepdjmelaaLib Go.Proofs.YtalalaepdjmelaaW.PrintWords Go.Proofs.YtalalaepdjmelaaW.PrintLast Go.Proofs.YtalalaepdjmelaaW.PrintMore
attribute [local go_sem] max2_int min2_int max_two min_two max_three min_three max_four min_four   -- for this text's walks alone
set_option linter.unusedVariables false
set_option linter.unusedSimpArgs false

/-! behind impl_markDrops -/
theorem drops_tail (b high : Int) (hb0 : 0 ≤ b) (hb : b ≤ 100) (hh : high ≤ 100) : ∀ (d k : Nat) (acc : List S51) (f : Int), 1 ≤ f → f ≤ b + 1 → (high - f + 1).toNat ≤ d → d + 1 < k → acc.length + d ≤ 1000 →
    ∃ r, spec_stDrops.l1 k b acc high f = some r ∧ impl_markDrops.l1 k b acc high f = some r ∧ r.length ≤ acc.length + d := by
  intro d
  induction d with
  | zero =>
    intro k acc f h1 h2 h3 hk ha
    obtain ⟨k, rfl⟩ : ∃ m, k = m + 1 := ⟨k - 1, by omega⟩
    simp only [spec_stDrops.l1, impl_markDrops.l1]
    rw [if_neg (by omega), if_neg (by omega)]
    exact ⟨acc, rfl, rfl, by omega⟩
  | succ d ih =>
    intro k acc f h1 h2 h3 hk ha
    obtain ⟨k, rfl⟩ : ∃ m, k = m + 1 := ⟨k - 1, by omega⟩
    have e1 : wrap64 (b + 1) = b + 1 := by unfold wrap64; omega
    have e2 : wrap64 (f + 1) = f + 1 := by unfold wrap64; omega
    simp only [spec_stDrops.l1, impl_markDrops.l1, Option.bind_some]
    by_cases hf : f ≤ high
    · have hL : acc.length < 8796093022208 := by omega
      rw [if_pos hf, if_pos hf, if_pos hL, e1, if_pos h2, if_pos hL, e2]
      by_cases c : f > b
      · rw [if_pos c]
        obtain ⟨k, rfl⟩ : ∃ m, k = m + 1 := ⟨k - 1, by omega⟩
        refine ⟨_, rfl, ?_, by simp⟩
        simp only [impl_markDrops.l1]
        by_cases c2 : f + 1 ≤ high
        · rw [if_pos c2, e1, if_neg (by omega)]
        · rw [if_neg c2]
      · rw [if_neg c]
        obtain ⟨r, i1, i2, i3⟩ := ih k (acc ++ [⟨f, decide (f > b)⟩]) (f + 1) (by omega) (by omega) (by omega) (by omega) (by simp; omega)
        exact ⟨r, i1, i2, by simp at i3; omega⟩
    · rw [if_neg hf, if_neg hf]
      exact ⟨acc, rfl, rfl, by omega⟩
theorem drops_marks (l : List Int) (a b : Int) (ha : a ≤ 100) (hb0 : 0 ≤ b) (hb : b ≤ a) (hl : l.length ≤ 100) (hm : ∀ x ∈ l, 1 ≤ x ∧ x ≤ a) : ∀ (d k : Nat) (acc : List S51) (low : Int) (i : Nat), 0 ≤ low → low ≤ b → i ≤ l.length → l.length - i = d → d + 200 < k → acc.length ≤ i →
    ∃ r, spec_stDrops.l0 k b acc low a l (l.length : Int) (i : Int) = some r ∧ impl_markDrops.l0 k b acc low a l (l.length : Int) (i : Int) = some r ∧ r.length ≤ 1000 := by
  intro d
  induction d with
  | zero =>
    intro k acc low i h1 h2 h3 hd hk hacc
    obtain ⟨k, rfl⟩ : ∃ m, k = m + 1 := ⟨k - 1, by omega⟩
    obtain ⟨k, rfl⟩ : ∃ m, k = m + 1 := ⟨k - 1, by omega⟩
    have e : wrap64 (low + 1) = low + 1 := by unfold wrap64; omega
    simp only [spec_stDrops.l0, impl_markDrops.l0]
    rw [if_neg (by omega), if_neg (by omega)]
    simp only [spec_stDrops.j1, impl_markDrops.j1, e]
    obtain ⟨r, i1, i2, i3⟩ := drops_tail b a hb0 (by omega) ha 100 k acc (low + 1) (by omega) (by omega) (by omega) (by omega) (by omega)
    exact ⟨r, i1, i2, by omega⟩
  | succ d ih =>
    intro k acc low i h1 h2 h3 hd hk hacc
    obtain ⟨k, rfl⟩ : ∃ m, k = m + 1 := ⟨k - 1, by omega⟩
    have hlt : i < l.length := by omega
    have e2 : wrap64 ((i : Int) + 1) = ((i + 1 : Nat) : Int) := by unfold wrap64; omega
    have hr := rd_nat l i hlt
    have hx := hm l[i] (List.getElem_mem hlt)
    rw [← hr] at hx
    simp only [spec_stDrops.l0, impl_markDrops.l0, Option.bind_some]
    have hi1 : (i : Int) < (l.length : Int) := by omega
    have hi0 : (0 : Int) ≤ (i : Int) := by omega
    have hL : acc.length < 8796093022208 := by omega
    rw [if_pos hi1, if_pos hi1, if_pos hi0, if_pos hi0, if_pos hi1, if_pos hi1, if_pos hL, e2]
    generalize rd l (i : Int) = x at hx
    by_cases c : x > b
    · obtain ⟨k, rfl⟩ : ∃ m, k = m + 1 := ⟨k - 1, by omega⟩
      have e : wrap64 (low + 1) = low + 1 := by unfold wrap64; omega
      have e3 : wrap64 (x - 1) = x - 1 := by unfold wrap64; omega
      rw [if_pos c, if_pos c, if_pos hL, decide_eq_true c]
      simp only [spec_stDrops.j1, impl_markDrops.j1, e, e3]
      obtain ⟨r, i1, i2, i3⟩ := drops_tail b (x - 1) hb0 (by omega) (by omega) 100 k (acc ++ [⟨x, true⟩]) (low + 1) (by omega) (by omega) (by omega) (by omega) (by simp; omega)
      exact ⟨r, i1, i2, by simp at i3; omega⟩
    · rw [if_neg c, if_neg c, if_pos hL, decide_eq_false c]
      exact ih k (acc ++ [⟨x, false⟩]) x (i + 1) (by omega) (by omega) (by omega) (by omega) (by omega) (by simp; omega)
theorem drops_same (l : List Int) (a b : Int) (ha : a ≤ 100) (hb0 : 0 ≤ b) (hb : b ≤ a) (hg : risL 1 a 0 l = true) (k : Nat) (hk : 400 < k) :
    ∃ r, spec_stDrops.f k a l b = some r ∧ impl_markDrops.f k a l b = some r ∧ r.length ≤ 1000 := by
  have hl := risL_length 1 a l 0 hg (by omega)
  unfold spec_stDrops.f impl_markDrops.f
  exact drops_marks l a b ha hb0 hb (by omega) (risL_mem 1 a l 0 hg) l.length k [] 0 0 (by omega) (by omega) (by omega) (by omega) (by omega) (by simp)


/-! ### impl_isBreak: function 41 -/
def impl_isBreak.f (a0 : Int) (a1 : Int) : Option (Bool) := (impl_within.f a1 0 a0).bind fun t152 => (some t152)
set_option maxHeartbeats 8000000 in
set_option maxRecDepth 100000 in
theorem impl_isBreak.calls (a0 : Int) (a1 : Int) (r : Bool) (w : World) (h : impl_isBreak.f a0 a1 = some r) :
    Calls Try.prog 41 #[.int .i64 a0, .int .i64 a1] w fun e w' => e = .returned (.bool r) ∧ Drawn0 w w' := by
  have H : ((impl_within.f a1 0 a0).bind fun t152 => (some t152)) = some r := h
  clear h
  replace H := Option.bind_eq_some_iff.mp H
  obtain ⟨t152, A30, H⟩ := H
  replace H : (some t152) = some r := H
  have A3 := Aside0.mk A30
  clear A30
  obtain rfl := Option.some.inj H
  go_enter Try.func41, Try.ntmps41
  go_wp2_with (first | ((with_reducible refine gate_callee (f := 60) rfl ?_); refine goesL_ (some 7) rfl rfl Try.func60 (by kernel_rfl) rfl #[.int .i64 a1, .int .i64 0, .int .i64 a0] rfl (by (try simp only [List.map_toArray, List.map_cons, List.map_nil]); first | done | rfl | (simp only [List.length_drop, List.length_take]; rfl)) ?_; (with_reducible refine (impl_within.calls0 a1 0 a0 t152 _ A3.out).mono ?_); rintro e w' ⟨rfl, rfl⟩; refine ⟨_, rfl, ?_⟩))
  go_ret
  exact ⟨by first | rfl | (simp; done) | (simp [*]; done), by repeat (first | exact Drawn0.refl _ | apply Drawn0.step)⟩

set_option maxHeartbeats 8000000 in
set_option maxRecDepth 100000 in
theorem impl_isBreak.calls0 (a0 : Int) (a1 : Int) (r : Bool) (w : World) (h : impl_isBreak.f a0 a1 = some r) :
    Calls Try.prog 41 #[.int .i64 a0, .int .i64 a1] w fun e w' => e = .returned (.bool r) ∧ w = w' := by
  have H : ((impl_within.f a1 0 a0).bind fun t152 => (some t152)) = some r := h
  clear h
  replace H := Option.bind_eq_some_iff.mp H
  obtain ⟨t152, A30, H⟩ := H
  replace H : (some t152) = some r := H
  have A3 := Aside0.mk A30
  clear A30
  obtain rfl := Option.some.inj H
  go_enter Try.func41, Try.ntmps41
  go_wp2_with (first | ((with_reducible refine gate_callee (f := 60) rfl ?_); refine goesL_ (some 7) rfl rfl Try.func60 (by kernel_rfl) rfl #[.int .i64 a1, .int .i64 0, .int .i64 a0] rfl (by (try simp only [List.map_toArray, List.map_cons, List.map_nil]); first | done | rfl | (simp only [List.length_drop, List.length_take]; rfl)) ?_; (with_reducible refine (impl_within.calls0 a1 0 a0 t152 _ A3.out).mono ?_); rintro e w' ⟨rfl, rfl⟩; refine ⟨_, rfl, ?_⟩))
  go_ret
  exact ⟨by first | rfl | (simp; done) | (simp [*]; done), by first | rfl | simp⟩

end Go.Proofs.Ytalalaepdjmelaa.PrintB
