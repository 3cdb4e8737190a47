-- written by this session's own driver (wip/gen.py) with the kit's print and contracts of our own
import Derived.Test.YtkbmefmnfoalhaaPrintC0
import Derived.Test.YtkbmefmnfoalhaaPrintC2
namespace Go.Proofs.Ytkbmefmnfoalhaa.PrintC
open Go.RowKit Go.Proofs.YtkbmefmnfoalhaaLib Go.Proofs.YtkbmefmnfoalhaaW.PrintWords Go.Proofs.YtkbmefmnfoalhaaW.PrintLast Go.Proofs.YtkbmefmnfoalhaaW.PrintMore
attribute [local go_sem] max2_int min2_int max_two min_two max_three min_three max_four min_four   -- for this text's walks alone
set_option linter.unusedVariables false
set_option linter.unusedSimpArgs false

/-! ### impl_coster_first: function 42, a contract of our own -/
-- LIB Cost
/-- The cells of a coster: prices, then costs by eggs, floors and side. -/
def costF (E T C : Int) (v : Nat → Nat → Nat → Int) (i : Nat) : Int := if i = 0 then E else if i = 1 then T else if i = 2 then C else v ((i - 3) / 122) ((i - 3) % 122 / 2) ((i - 3) % 2)
def IsCoster (w : World) (g : Nat) (E T C : Int) (v : Nat → Nat → Nat → Int) : Prop := ArrI w g 48 1345 (costF E T C v)
theorem costF_at (E T C : Int) (v : Nat → Nat → Nat → Int) (e n s : Nat) (he : e ≤ 10) (hn : n ≤ 60) (hs : s ≤ 1) : costF E T C v (3 + e * 122 + n * 2 + s) = v e n s := by
  unfold costF
  rw [if_neg (by omega), if_neg (by omega), if_neg (by omega), show (3 + e * 122 + n * 2 + s - 3) / 122 = e by omega, show (3 + e * 122 + n * 2 + s - 3) % 122 / 2 = n by omega, show (3 + e * 122 + n * 2 + s - 3) % 2 = s by omega]
theorem IsCoster.at_ {w : World} {g : Nat} {E T C : Int} {v : Nat → Nat → Nat → Int} (h : IsCoster w g E T C v) (e n s : Nat) (he : e ≤ 10) (hn : n ≤ 60) (hs : s ≤ 1) : w.cell? ⟨g, 3 + e * 122 + n * 2 + s, none⟩ = some (.int .i64 (v e n s)) := by
  rw [ArrI.cell h _ (by omega), costF_at _ _ _ _ _ _ _ he hn hs]
theorem IsCoster.below {w w1 : World} {g : Nat} {E T C : Int} {v : Nat → Nat → Nat → Int} (h : IsCoster w g E T C v) (hb : Below w.heap.size w w1) : IsCoster w1 g E T C v := ArrI.below h hb
/-- The cost that begins with a floor, over a table of costs. -/
def FG (E T C : Int) (v : Nat → Nat → Nat → Int) (e n s f : Nat) : Int := T + C * wayI n s f + max (E + v (e - 1) (f - 1) 1) (v e (n - f) 0)
set_option maxHeartbeats 4000000 in
set_option maxRecDepth 100000 in
theorem first_calls (g e n s f : Nat) (E T C : Int) (v : Nat → Nat → Nat → Int) (w : World) (he : 1 ≤ e) (he2 : e ≤ 10) (hn : n ≤ 60) (hs : s ≤ 1) (hf : 1 ≤ f) (hfn : f ≤ n) (hp : Prs E T C)
    (hv1 : 0 ≤ v (e - 1) (f - 1) 1 ∧ v (e - 1) (f - 1) 1 ≤ 1125899907000000) (hv2 : 0 ≤ v e (n - f) 0 ∧ v e (n - f) 0 ≤ 1125899907000000) (hI : IsCoster w g E T C v) :
    Calls Try.prog 42 #[.pointer (some ⟨g, 0, none⟩), .int .i64 e, .int .i64 n, .int .i64 s, .int .i64 f] w fun e' w' => e' = .returned (.int .i64 (FG E T C v e n s f)) ∧ ∃ m, w' = w.drewN m := by
  obtain ⟨e', rfl⟩ : ∃ e', e = e' + 1 := ⟨e - 1, by omega⟩
  obtain ⟨f', rfl⟩ : ∃ f', f = f' + 1 := ⟨f - 1, by omega⟩
  obtain ⟨m, rfl⟩ : ∃ m, n = f' + 1 + m := ⟨n - (f' + 1), by omega⟩
  have hx0 : w.cell? ⟨g, 0, none⟩ = some (.int .i64 E) := ArrI.cell hI 0 (by omega)
  have hx1 : w.cell? ⟨g, 1, none⟩ = some (.int .i64 T) := ArrI.cell hI 1 (by omega)
  have hx2 : w.cell? ⟨g, 2, none⟩ = some (.int .i64 C) := ArrI.cell hI 2 (by omega)
  have hx3 := hI.at_ e' f' 1 (by omega) (by omega) (by omega)
  have hx4 := hI.at_ (e' + 1) m 0 (by omega) (by omega) (by omega)
  unfold FG
  rw [Nat.add_sub_cancel, Nat.add_sub_cancel, Nat.add_sub_cancel_left] at *
  have hw := way_range (f' + 1 + m) s (f' + 1) (by omega) (by omega)
  obtain ⟨e0, e1, t0, t1, c0, c1⟩ := hp
  have hmul := mulC c0 c1 (by omega : 0 ≤ wayI (f' + 1 + m) s (f' + 1)) (by omega)
  generalize v e' f' 1 = x at hx3 hv1 ⊢
  generalize v (e' + 1) m 0 = y at hx4 hv2 ⊢
  clear hI
  obtain ⟨xl, xh⟩ := hv1
  obtain ⟨yl, yh⟩ := hv2
  obtain ⟨ml, mh⟩ := hmul
  have hz0 : (e' : Int) < 11 := by omega
  have hz1 : (e' : Int) + 1 < 11 := by omega
  have hz2 : (f' : Int) < 61 := by omega
  have hz3 : (m : Int) < 61 := by omega
  have hz4 : (0 : Int) ≤ (e' : Int) + 1 := by omega
  have hz5 : ((e' : Int) + 1).toNat = e' + 1 := by omega
  rw [Nat.add_zero] at hx4
  rcases (by omega : s = 0 ∨ s = 1) with rfl | rfl
  · have hway : wayI (f' + 1 + m) 0 (f' + 1) = (f' : Int) + 1 := by simp only [wayI]; simp
    rw [hway] at ml mh ⊢
    clear hway hw
    obtain ⟨hw1, hw2, hw3, hw4, hw5, hw6⟩ : IntKind.i64.wrap (e' : Int) = e' ∧ IntKind.i64.wrap (f' : Int) = f' ∧ IntKind.i64.wrap (m : Int) = m ∧ IntKind.i64.wrap (C * ((f' : Int) + 1)) = C * ((f' : Int) + 1) ∧ IntKind.i64.wrap (T + C * ((f' : Int) + 1)) = T + C * ((f' : Int) + 1) ∧ IntKind.i64.wrap (E + x) = E + x := by
      generalize C * ((f' : Int) + 1) = p at ml mh ⊢
      refine ⟨?_, ?_, ?_, ?_, ?_, ?_⟩ <;> (rw [i64_w]; unfold wrap64; omega)
    have hw7 : IntKind.i64.wrap (T + C * ((f' : Int) + 1) + y) = T + C * ((f' : Int) + 1) + y := by
      clear hw1 hw2 hw3 hw4 hw5 hw6
      generalize C * ((f' : Int) + 1) = p at ml mh ⊢
      rw [i64_w]; unfold wrap64; omega
    have hw8 : IntKind.i64.wrap (T + C * ((f' : Int) + 1) + (E + x)) = T + C * ((f' : Int) + 1) + (E + x) := by
      clear hw1 hw2 hw3 hw4 hw5 hw6 hw7
      generalize C * ((f' : Int) + 1) = p at ml mh ⊢
      rw [i64_w]; unfold wrap64; omega
    have hmm : E + x < y ∨ y ≤ E + x := by clear hw1 hw2 hw3 hw4 hw5 hw6 hw7 hw8; omega
    rcases hmm with hm | hm
    case' inl => rw [show max (E + x) y = y by clear hw1 hw2 hw3 hw4 hw5 hw6 hw7 hw8; omega]
    case' inr => rw [show max (E + x) y = E + x by clear hw1 hw2 hw3 hw4 hw5 hw6 hw7 hw8; omega]
    all_goals
      clear ml mh
      go_enter Try.func42, Try.ntmps42
      go_wp2
      go_quiet (fail)
      go_wp2
      go_ret
      exact ⟨rfl, _, rfl⟩
  · have hway : wayI (f' + 1 + m) 1 (f' + 1) = (f' : Int) + 1 + (m : Int) + 1 - ((f' : Int) + 1) := by simp only [wayI]; simp
    rw [hway] at ml mh ⊢
    clear hway hw
    obtain ⟨hw1, hw2, hw3, hw4, hw5, hw6⟩ : IntKind.i64.wrap (e' : Int) = e' ∧ IntKind.i64.wrap (f' : Int) = f' ∧ IntKind.i64.wrap (m : Int) = m ∧ IntKind.i64.wrap (C * ((f' : Int) + 1 + (m : Int) + 1 - ((f' : Int) + 1))) = C * ((f' : Int) + 1 + (m : Int) + 1 - ((f' : Int) + 1)) ∧ IntKind.i64.wrap (T + C * ((f' : Int) + 1 + (m : Int) + 1 - ((f' : Int) + 1))) = T + C * ((f' : Int) + 1 + (m : Int) + 1 - ((f' : Int) + 1)) ∧ IntKind.i64.wrap (E + x) = E + x := by
      generalize C * ((f' : Int) + 1 + (m : Int) + 1 - ((f' : Int) + 1)) = p at ml mh ⊢
      refine ⟨?_, ?_, ?_, ?_, ?_, ?_⟩ <;> (rw [i64_w]; unfold wrap64; omega)
    have hw7 : IntKind.i64.wrap (T + C * ((f' : Int) + 1 + (m : Int) + 1 - ((f' : Int) + 1)) + y) = T + C * ((f' : Int) + 1 + (m : Int) + 1 - ((f' : Int) + 1)) + y := by
      clear hw1 hw2 hw3 hw4 hw5 hw6
      generalize C * ((f' : Int) + 1 + (m : Int) + 1 - ((f' : Int) + 1)) = p at ml mh ⊢
      rw [i64_w]; unfold wrap64; omega
    have hw8 : IntKind.i64.wrap (T + C * ((f' : Int) + 1 + (m : Int) + 1 - ((f' : Int) + 1)) + (E + x)) = T + C * ((f' : Int) + 1 + (m : Int) + 1 - ((f' : Int) + 1)) + (E + x) := by
      clear hw1 hw2 hw3 hw4 hw5 hw6 hw7
      generalize C * ((f' : Int) + 1 + (m : Int) + 1 - ((f' : Int) + 1)) = p at ml mh ⊢
      rw [i64_w]; unfold wrap64; omega
    have hmm : E + x < y ∨ y ≤ E + x := by clear hw1 hw2 hw3 hw4 hw5 hw6 hw7 hw8; omega
    rcases hmm with hm | hm
    case' inl => rw [show max (E + x) y = y by clear hw1 hw2 hw3 hw4 hw5 hw6 hw7 hw8; omega]
    case' inr => rw [show max (E + x) y = E + x by clear hw1 hw2 hw3 hw4 hw5 hw6 hw7 hw8; omega]
    all_goals
      clear ml mh
      go_enter Try.func42, Try.ntmps42
      go_wp2
      go_quiet (fail)
      go_wp2
      go_ret
      exact ⟨rfl, _, rfl⟩

end Go.Proofs.Ytkbmefmnfoalhaa.PrintC
