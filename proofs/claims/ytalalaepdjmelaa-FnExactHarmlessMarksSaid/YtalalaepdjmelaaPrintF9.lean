-- written by this session's own driver (wip/gen.py) with the kit's print and contracts of our own
import Derived.Test.YtalalaepdjmelaaPrintF0
import Derived.Test.YtalalaepdjmelaaPrintF1
import Derived.Test.YtalalaepdjmelaaPrintF5
import Derived.Test.YtalalaepdjmelaaPrintF6
import Derived.Test.YtalalaepdjmelaaPrintF7
import Derived.Test.YtalalaepdjmelaaPrintF8
namespace Go.Proofs.Ytalalaepdjmelaa.PrintF
open Go.RowKit Go.Proofs.YtalalaepdjmelaaLib Go.Proofs.YtalalaepdjmelaaW.PrintWords Go.Proofs.YtalalaepdjmelaaW.PrintLast Go.Proofs.YtalalaepdjmelaaW.PrintMore
attribute [local go_sem] max2_int min2_int max_two min_two max_three min_three max_four min_four   -- for this text's walks alone
set_option linter.unusedVariables false
set_option linter.unusedSimpArgs false

/-! behind impl_marked -/
-- LIB Marks
/-- How many drops marks need for a break. -/
def dropN (a : Int) (l : List Int) (b : Int) : Int := match impl_markDrops.f 1000 a l b with
  | some r => (r.length : Int)
  | none => 0
theorem LeO_up {α : Type} {g : Nat → Option α} (h : ∀ k, LeO (g k) (g (k + 1))) {k m : Nat} (hk : k ≤ m) : LeO (g k) (g m) := by
  induction hk with
  | refl => exact LeO.refl _
  | step _ ih => exact LeO.trans ih (h _)
theorem dropN_is (a : Int) (l : List Int) (b : Int) (ha : a ≤ 100) (hb0 : 0 ≤ b) (hb : b ≤ a) (hg : risL 1 a 0 l = true) (k : Nat) (hk : 400 < k) :
    ∃ r, spec_stDrops.f k a l b = some r ∧ impl_markDrops.f k a l b = some r ∧ (r.length : Int) = dropN a l b ∧ r.length ≤ 1000 := by
  obtain ⟨r, q1, q2, q3⟩ := drops_same l a b ha hb0 hb hg k hk
  obtain ⟨r', p1, p2, p3⟩ := drops_same l a b ha hb0 hb hg 1000 (by omega)
  refine ⟨r, q1, q2, ?_, q3⟩
  have e1 := LeO_up (g := fun k => impl_markDrops.f k a l b) (fun k => impl_markDrops.mono a l b k) (show k ≤ k + 1000 by omega) r q2
  have e2 := LeO_up (g := fun k => impl_markDrops.f k a l b) (fun k => impl_markDrops.mono a l b k) (show 1000 ≤ k + 1000 by omega) r' p2
  have e3 : r = r' := Option.some.inj (e1.symm.trans e2)
  unfold dropN
  rw [p2, e3]
theorem dropN_0 (a : Int) (l : List Int) (b : Int) : 0 ≤ dropN a l b := by unfold dropN; split <;> omega
theorem marked_l0 (a : Nat) (l : List Int) (ha : a ≤ 100) (hg : risL 1 a 0 l = true) : ∀ (d k i : Nat) (s : Int), a + 1 - i = d → i ≤ a + 1 → 400 + d < k →
    ∃ s', impl_marked.l0 k a l (mxF (dropN a l) i) s ((a : Int) + 1) i = some (mxF (dropN a l) (a + 1), s')
  | 0, k, i, s, hd, hi, hk => by
    obtain ⟨k, rfl⟩ : ∃ m, k = m + 1 := ⟨k - 1, by omega⟩
    obtain rfl : i = a + 1 := by omega
    rw [impl_marked.l0, if_neg (by omega)]
    exact ⟨s, rfl⟩
  | d + 1, k, i, s, hd, hi, hk => by
    obtain ⟨k, rfl⟩ : ∃ m, k = m + 1 := ⟨k - 1, by omega⟩
    obtain ⟨r, _, hr, hl, _⟩ := dropN_is a l i (by omega) (by omega) (by omega) hg k (by omega)
    obtain ⟨s', ih⟩ := marked_l0 a l ha hg d k (i + 1) (wrap64 (s + dropN a l i)) (by omega) (by omega) (by omega)
    have e2 : wrap64 ((i : Int) + 1) = ((i + 1 : Nat) : Int) := by unfold wrap64; omega
    have e3 : mx (mxF (dropN a l) i) (dropN a l i) = mxF (dropN a l) (i + 1) := by rw [mxF]; unfold mx; omega
    rw [impl_marked.l0, if_pos (by clear e2; omega), hr, Option.bind_some, hl, e2, e3]
    exact ⟨s', ih⟩
theorem marked_is (a : Nat) (l : List Int) (ha : a ≤ 100) (hg : risL 1 a 0 l = true) (k : Nat) (hk : 600 < k) : ∃ s, impl_marked.f k a l = some (mxF (dropN a l) (a + 1), s) := by
  have e2 : wrap64 ((a : Int) + 1) = (a : Int) + 1 := by unfold wrap64; omega
  unfold impl_marked.f
  rw [e2]
  exact marked_l0 a l ha hg (a + 1) k 0 0 (by omega) (by omega) (by omega)
theorem stWorst_l (a : Nat) (l : List Int) (ha : a ≤ 100) (hg : risL 1 a 0 l = true) : ∀ (d k i : Nat), a + 1 - i = d → i ≤ a + 1 → 400 + d < k →
    spec_stWorst.l0 k a l (mxF (dropN a l) i) i = some (mxF (dropN a l) (a + 1))
  | 0, k, i, hd, hi, hk => by
    obtain ⟨k, rfl⟩ : ∃ m, k = m + 1 := ⟨k - 1, by omega⟩
    obtain rfl : i = a + 1 := by omega
    rw [spec_stWorst.l0, if_neg (by omega)]
  | d + 1, k, i, hd, hi, hk => by
    obtain ⟨k, rfl⟩ : ∃ m, k = m + 1 := ⟨k - 1, by omega⟩
    obtain ⟨r, hr, _, hl, _⟩ := dropN_is a l i (by omega) (by omega) (by omega) hg k (by omega)
    have ih := stWorst_l a l ha hg d k (i + 1) (by omega) (by omega) (by omega)
    have e2 : wrap64 ((i : Int) + 1) = ((i + 1 : Nat) : Int) := by unfold wrap64; omega
    rw [spec_stWorst.l0, if_pos (by clear e2; omega), hr, Option.bind_some, spec_l1Most_is, Option.bind_some, e2, hl]
    exact ih
theorem stWorst_is (a : Nat) (l : List Int) (ha : a ≤ 100) (hg : risL 1 a 0 l = true) (k : Nat) (hk : 600 < k) : spec_stWorst.f k a l = some (mxF (dropN a l) (a + 1)) := by
  unfold spec_stWorst.f
  exact stWorst_l a l ha hg (a + 1) k 0 (by omega) (by omega) (by omega)

/-! ### impl_WorstOfMarks: function 44 -/
def impl_WorstOfMarks.f (k : Nat) (a0 : Int) (l1 : List Int) : Option (Int × Bool) := (impl_AreMarks.f k a0 l1).bind fun t177 => (if t177 = true then ((impl_marked.f k a0 l1).bind fun bt178 => (some (bt178.1, true))) else (some (0, false)))
theorem impl_WorstOfMarks.mono : ∀ a0 a1 k, LeO (impl_WorstOfMarks.f k a0 a1) (impl_WorstOfMarks.f (k + 1) a0 a1) := by
  intro a0 a1 k
  unfold impl_WorstOfMarks.f
  repeat' first
      | (with_reducible exact impl_AreMarks.mono _ _ _)
      | (with_reducible exact impl_marked.mono _ _ _)
      | (with_reducible exact LeO.refl _)
      | (with_reducible exact LeO.none _)
      | (with_reducible refine LeO.ite ?_ ?_)
      | (with_reducible refine LeO.bind ?_ (fun _ => ?_))
      | exact impl_AreMarks.mono _ _ _
      | exact impl_marked.mono _ _ _
      | exact LeO.none _
      | refine LeO.ite ?_ ?_
      | refine LeO.bind ?_ (fun _ => ?_)
set_option maxHeartbeats 8000000 in
set_option maxRecDepth 100000 in
theorem impl_WorstOfMarks.calls (k : Nat) (a0 : Int) (A1 : Option Addr) (c1 : Nat) (l1 : List Int) (r1 : Int) (r2 : Bool) (w : World) (hr1 : Kd.C (Kd.int .i64) w A1 l1.length l1) (hc1 : l1.length ≤ c1) (h : impl_WorstOfMarks.f k a0 l1 = some (r1, r2)) :
    Calls Try.prog 44 #[.int .i64 a0, .slice A1 l1.length c1] w fun e w' => e = .returned (.tuple #[.int .i64 r1, .bool r2]) ∧ Below w.heap.size w w' := by
  have HR1 := Aside0.mk hr1
  have HC1 := Aside0.mk hc1
  clear hr1 hc1
  have HB := Aside0.mk (Below.refl w.heap.size w)
  have H : ((impl_AreMarks.f k a0 l1).bind fun t177 => (if t177 = true then ((impl_marked.f k a0 l1).bind fun bt178 => (some (bt178.1, true))) else (some (0, false)))) = some (r1, r2) := h
  clear h
  replace H := Option.bind_eq_some_iff.mp H
  obtain ⟨t177, A30, H⟩ := H
  replace H : (if t177 = true then ((impl_marked.f k a0 l1).bind fun bt178 => (some (bt178.1, true))) else (some (0, false))) = some (r1, r2) := H
  have A3 := Aside0.mk A30
  clear A30
  by_cases c4 : t177 = true
  · subst c4
    have H1 : ((impl_marked.f k a0 l1).bind fun bt178 => (some (bt178.1, true))) = some (r1, r2) := by rw [if_pos rfl] at H; exact H
    clear H
    have H := H1
    clear H1
    replace H := Option.bind_eq_some_iff.mp H
    obtain ⟨⟨t178, t179⟩, A50, H⟩ := H
    replace H : (some (t178, true)) = some (r1, r2) := H
    have A5 := Aside0.mk A50
    clear A50
    simp only [Option.some.injEq, Prod.mk.injEq] at H
    obtain ⟨rfl, rfl⟩ := H
    go_enter Try.func44, Try.ntmps44
    go_wp2_with (first | ((with_reducible refine gate_callee (f := 32) rfl ?_); refine goesL_ (some 10) rfl rfl Try.func32 (by kernel_rfl) rfl #[.int .i64 a0, .slice A1 l1.length c1] rfl (by (try simp only [List.map_toArray, List.map_cons, List.map_nil]); first | done | rfl | (simp only [List.length_drop, List.length_take]; rfl)) ?_; (with_reducible refine (impl_AreMarks.calls k a0 _ _ l1 true _ ?side1 ?side2 A3.out).mono ?_); (case side1 => repeat (first | exact HR1.out | (with_reducible refine Kd.C_alloc ?_ _) | (with_reducible refine Kd.C_drewN ?_ _) | (with_reducible refine Kd.C_drew ?_))); (case side2 => exact HC1.out); rintro e w' ⟨rfl, ⟨nd, rfl⟩⟩; refine ⟨_, rfl, ?_⟩) | ((with_reducible refine gate_callee (f := 45) rfl ?_); refine goesL_ (some 15) rfl rfl Try.func45 (by kernel_rfl) rfl #[.int .i64 a0, .slice A1 l1.length c1] rfl (by (try simp only [List.map_toArray, List.map_cons, List.map_nil]); first | done | rfl | (simp only [List.length_drop, List.length_take]; rfl)) ?_; (with_reducible refine (impl_marked.calls k a0 _ _ l1 t178 t179 _ ?side1 ?side2 A5.out).mono ?_); (case side1 => repeat (first | exact HR1.out | (with_reducible refine Kd.C_alloc ?_ _) | (with_reducible refine Kd.C_drewN ?_ _) | (with_reducible refine Kd.C_drew ?_))); (case side2 => exact HC1.out); rintro e w6 ⟨rfl, hb⟩; refine ⟨_, rfl, ?_⟩; have n0_ := Aside0.mk (below_step (by repeat (first | (with_reducible first | exact HB.out | apply below_alloc | apply pw_below_drewN | apply below_drew1) | exact HB.out)) hb); clear HB; have HB := n0_; clear n0_; (try clear hb); (try clear hb2); (try clear hk); (try clear hi)))
    go_ret2
    exact ⟨by first | rfl | (simp [errW_none, errW_some] <;> rfl) | (simp [*, errW_none, errW_some] <;> rfl), by repeat (first | (with_reducible first | exact HB.out | apply below_alloc | apply pw_below_drewN | apply below_drew1) | exact HB.out)⟩
  · replace c4 := Bool.eq_false_iff.mpr c4
    subst c4
    have H1 : (some (0, false)) = some (r1, r2) := by rw [if_neg (show ¬ (false = true) by decide)] at H; exact H
    clear H
    have H := H1
    clear H1
    simp only [Option.some.injEq, Prod.mk.injEq] at H
    obtain ⟨rfl, rfl⟩ := H
    go_enter Try.func44, Try.ntmps44
    go_wp2_with (first | ((with_reducible refine gate_callee (f := 32) rfl ?_); refine goesL_ (some 10) rfl rfl Try.func32 (by kernel_rfl) rfl #[.int .i64 a0, .slice A1 l1.length c1] rfl (by (try simp only [List.map_toArray, List.map_cons, List.map_nil]); first | done | rfl | (simp only [List.length_drop, List.length_take]; rfl)) ?_; (with_reducible refine (impl_AreMarks.calls k a0 _ _ l1 false _ ?side1 ?side2 A3.out).mono ?_); (case side1 => repeat (first | exact HR1.out | (with_reducible refine Kd.C_alloc ?_ _) | (with_reducible refine Kd.C_drewN ?_ _) | (with_reducible refine Kd.C_drew ?_))); (case side2 => exact HC1.out); rintro e w' ⟨rfl, ⟨nd, rfl⟩⟩; refine ⟨_, rfl, ?_⟩))
    go_ret2
    exact ⟨by first | rfl | (simp [errW_none, errW_some] <;> rfl) | (simp [*, errW_none, errW_some] <;> rfl), by repeat (first | (with_reducible first | exact HB.out | apply below_alloc | apply pw_below_drewN | apply below_drew1) | exact HB.out)⟩

/-! ### slices_Clone_int_int: function 33, a contract of our own -/
def slices_Clone_int_int.f (l0 : List Int) : Option (List Int) := if l0.length ≤ 1000000000 then some l0 else none
set_option maxHeartbeats 8000000 in
set_option maxRecDepth 100000 in
theorem slices_Clone_int_int.calls (A0 : Option Addr) (c0 : Nat) (l0 : List Int) (r : List Int) (w : World) (hr0 : Kd.C (Kd.int .i64) w A0 l0.length l0) (hc0 : l0.length ≤ c0) (h : slices_Clone_int_int.f l0 = some r) :
    Calls Try.prog 33 #[.slice A0 l0.length c0] w fun e w' => ∃ v0_ : Value, e = .returned (v0_) ∧ Kd.R (Kd.int .i64) 3 w' w.heap.size (fun _ => True) v0_ r ∧ Below w.heap.size w w' := by
  unfold slices_Clone_int_int.f at h
  by_cases hl : l0.length ≤ 1000000000
  · rw [if_pos hl] at h
    obtain rfl := Option.some.inj h
    clear h
    have HAL := Aside0.mk (show ([] : List Int).length + l0.length < 17592186044416 by simp; omega)
    have HR0 := Aside0.mk hr0
    have HB := Aside0.mk (Below.refl w.heap.size w)
    cases A0 with
    | none =>
      have h0 : l0 = [] := by
        apply List.length_eq_zero_iff.1
        apply Nat.eq_zero_of_not_pos
        intro hp
        obtain ⟨ad, e, _⟩ := Kd.at_int hr0 0 (by omega) (by omega)
        cases e
      subst h0
      have hnil := fun (W : World) => Lib.run_eql_slice_nil (P := Try.prog) W 22 3 none 0 c0 0 0 Try.underlying22
      clear hr0 hc0 hl HR0 HAL
      go_enter Try.func33, Try.ntmps33
      go_wp2
      go_ret
      exact ⟨.slice none 0 0, rfl, Kd.R_nil _ _ _ _ _, Below.refl _ _⟩
    | some ad =>
      have hnil := fun (W : World) => Lib.run_eql_slice_nil (P := Try.prog) W 22 3 (some ad) l0.length c0 0 0 Try.underlying22
      clear hr0 hc0 hl
      go_enter Try.func33, Try.ntmps33
      go_wp2_with (first | ((with_reducible refine gate_dst (N := 5) rfl ?_); refine Kd.R_lit (Kd.int .i64) _ 3 ?hg (N := 5) ?hd (xs := ([] : List Int)) (inner := []) (ok := fun _ => True) (okp := fun _ => True) ?hr ?hp (fun _ hk => hk) trivial (Below.refl _ _) (Nat.le_refl _) (by simp) ?_; (case hd => rfl); (case hg => rfl); (case hr => first | (go_simp; done) | (go_simp; rfl)); (case hp => exact (Reps.none _ _)); intro V5 W5 ho4 hb hg_ hnew_; clear hg_ hnew_; have HO5 := Aside0.mk (Kd.R_lower ho4 (below_size (by repeat (first | (with_reducible first | exact HB.out | apply below_alloc | apply pw_below_drewN | apply below_drew1) | exact HB.out)))); have HB_ := Aside0.mk (below_step (by repeat (first | (with_reducible first | exact HB.out | apply below_alloc | apply pw_below_drewN | apply below_drew1) | exact HB.out)) hb); clear HB hb ho4; have HB := HB_; clear HB_) | ((with_reducible refine gate_builtin (b := .append) (xs := #[.tmp 5, .tmp 6]) rfl ?_); at_builtin; refine Kd.R_append_rows (Kd.int .i64) (w0 := w) w.heap.size rfl (.tmp 5) (.tmp 6) 22 3 (.int .i64 0) 8 rfl Try.underlying22 info3 rfl (by decide) (by omega) V5 ([]) (l0) _ _ _ (fun _ => True) (fun _ => False) rfl rfl ?aO ?aR (fun _ _ h => h) (fun _ h => h.elim) ?aF ?aB ?aS ?aL ?_; (case aR => repeat (first | exact HR0.out | exact (Kd.C_below HR0.out HB.out) | (with_reducible refine Kd.C_alloc ?_ _) | (with_reducible refine Kd.C_drewN ?_ _) | (with_reducible refine Kd.C_drew ?_))); (case aB => exact (by repeat (first | (with_reducible first | exact HB.out | apply below_alloc | apply pw_below_drewN | apply below_drew1) | exact HB.out))); (case aF => exact (fun _ _ => trivial)); (case aO => exact (by (with_reducible repeat (first | apply Kd.R_alloc | apply Kd.R_drewN | apply Kd.R_drew)); exact HO5.out)); (case aS => exact (below_size (by repeat (first | (with_reducible first | exact HB.out | apply below_alloc | apply pw_below_drewN | apply below_drew1) | exact HB.out)))); (case aL => have := HAL.out; omega); intro va_ wa_ ho hb hg hat; have HA_ := Aside0.mk ho; have HB_ := Aside0.mk hb; clear HB HO5 ho hb hg hat; have HB := HB_; clear HB_))
      go_ret
      exact ⟨_, rfl, by have := HA_.out; rw [List.nil_append] at this; exact this, HB.out⟩
  · rw [if_neg hl] at h
    exact absurd h (by simp)


/-! ### slices_Delete_int_int: function 61, a contract of our own -/
open Go.Sort in
theorem delete_R {base : Nat} {W : World} {ok : Nat → Prop} {g cap : Nat} {xs : List Int} (h : Kd.R (Kd.int .i64) 3 W base ok (.slice (some ⟨g, 0, none⟩) xs.length cap) xs) (k : Nat) (hk : k < xs.length) :
    Calls Try.prog 61 #[.slice (some ⟨g, 0, none⟩) xs.length cap, .int .i64 k, .int .i64 ((k : Int) + 1)] W fun e w' => e = .returned (.slice (some ⟨g, 0, none⟩) (xs.length - 1) cap) ∧ Kd.R (Kd.int .i64) 3 w' base ok (.slice (some ⟨g, 0, none⟩) (xs.length - 1) cap) (xs.eraseIdx k) ∧ W.grownBy w' (some g) := by
  obtain ⟨h1, h2, h3, h4⟩ := R_holds h
  have hc := Try.slices_Delete_int g 0 cap k (k + 1) xs W h1 h3 h4 (by omega) (by omega)
  refine hc.mono (fun e w' hh => ?_)
  obtain ⟨rfl, q, rfl⟩ := hh
  rw [show k + 1 - k = 1 by omega]
  obtain ⟨r1, r2⟩ := R_put_row h (xs.take k ++ xs.drop (k + 1) ++ List.replicate 1 0) (by simp; omega) q #[]
  rw [grow_empty] at r1 r2
  refine ⟨rfl, ?_, r2⟩
  have r3 := Kd.R_take (m := xs.length - 1) r1 (by simp; omega)
  have e1 : (xs.take k ++ xs.drop (k + 1) ++ List.replicate 1 0).take (xs.length - 1) = xs.eraseIdx k := by
    have hl : (xs.take k ++ xs.drop (k + 1)).length = xs.length - 1 := by simp; omega
    rw [← hl, List.take_left, List.eraseIdx_eq_take_drop_succ]
  rw [e1] at r3
  exact r3

/-! ### impl_without: function 46, a contract of our own -/
def impl_without.f (l0 : List Int) (a1 : Int) : Option (List Int) := if l0.length ≤ 1000000000 ∧ 0 ≤ a1 ∧ a1 < l0.length then some (l0.eraseIdx a1.toNat) else none
set_option maxHeartbeats 4000000 in
set_option maxRecDepth 100000 in
theorem impl_without.calls (A0 : Option Addr) (c0 : Nat) (l0 : List Int) (a1 : Int) (r : List Int) (w : World) (hr0 : Kd.C (Kd.int .i64) w A0 l0.length l0) (hc0 : l0.length ≤ c0) (h : impl_without.f l0 a1 = some r) :
    Calls Try.prog 46 #[.slice A0 l0.length c0, .int .i64 a1] w fun e w' => ∃ v0_ : Value, e = .returned (v0_) ∧ Kd.R (Kd.int .i64) 3 w' w.heap.size (fun _ => True) v0_ r ∧ Below w.heap.size w w' := by
  unfold impl_without.f at h
  by_cases hp : l0.length ≤ 1000000000 ∧ 0 ≤ a1 ∧ a1 < l0.length
  · rw [if_pos hp] at h
    obtain rfl := Option.some.inj h
    obtain ⟨k, rfl⟩ : ∃ m : Nat, a1 = m := ⟨a1.toNat, by omega⟩
    rw [Int.toNat_natCast]
    have HC := Aside0.mk (slices_Clone_int_int.calls A0 c0 l0 l0 w hr0 hc0 (by unfold slices_Clone_int_int.f; rw [if_pos hp.1]))
    have HK : Aside0 (k < l0.length) := ⟨by omega⟩
    have hw1 : IntKind.i64.wrap ((k : Int) + 1) = (k : Int) + 1 := by rw [i64_w]; unfold wrap64; omega
    have HD : Aside0 (∀ (W : World) (g cap : Nat), Kd.R (Kd.int .i64) 3 W w.heap.size (fun _ => True) (.slice (some ⟨g, 0, none⟩) l0.length cap) l0 → Calls Try.prog 61 #[.slice (some ⟨g, 0, none⟩) l0.length cap, .int .i64 k, .int .i64 ((k : Int) + 1)] W fun e w' => e = .returned (.slice (some ⟨g, 0, none⟩) (l0.length - 1) cap) ∧ Kd.R (Kd.int .i64) 3 w' w.heap.size (fun _ => True) (.slice (some ⟨g, 0, none⟩) (l0.length - 1) cap) (l0.eraseIdx k) ∧ W.grownBy w' (some g)) := ⟨fun W g cap hr => delete_R hr k HK.out⟩
    have HN : Aside0 (∀ (W : World) (v : Value), Kd.R (Kd.int .i64) 3 W w.heap.size (fun _ => True) v l0 → ∃ g cap, v = .slice (some ⟨g, 0, none⟩) l0.length cap ∧ w.heap.size ≤ g) := ⟨fun W v hr => by
      obtain ⟨g, cap, h1, h2, _⟩ := Kd.R_form hr (by have := HK.out; omega)
      exact ⟨g, cap, h1, h2⟩⟩
    clear h hp hr0 hc0
    generalize l0.length = n at HC HK HD HN ⊢
    go_enter Try.func46, Try.ntmps46
    go_wp2_with (first
      | (go_at_call 33; refine (HC.out).mono ?_; rintro e_ w1 ⟨v, rfl, hr, hb⟩; obtain ⟨g, cap, rfl, hg⟩ := HN.out _ _ hr; have HR1 := Aside0.mk hr; have HB1 := Aside0.mk hb; have HG := Aside0.mk hg; clear hr hb hg)
      | (go_at_call 61; refine (HD.out _ g cap HR1.out).mono ?_; rintro e_ w2 ⟨rfl, hr, hg⟩; have HR2 := Aside0.mk hr; have HB2 := Aside0.mk (HB1.out.grown hg HB1.out.size (fun k hk => by cases hk; exact HG.out)); clear hr hg))
    go_ret
    exact ⟨_, rfl, HR2.out, HB2.out⟩
  · rw [if_neg hp] at h
    exact absurd h (by simp)


/-! ### impl_HarmlessMarks: function 23 -/
def impl_HarmlessMarks.l0 : Nat → Int → List Int → Int → List Int → Int → Int → Option (List Int × Bool)
  | 0, _, _, _, _, _, _ => none
  | k + 1, x0, x1, x6, x8, x22, x23 => if x23 < x22 then ((impl_without.f x1 x23).bind fun t185 => ((impl_marked.f k x0 t185).bind fun bt188 => (if bt188.1 = x6 then (if x8.length < 17592186044416 then (impl_HarmlessMarks.l0 k x0 x1 x6 (x8 ++ [x23]) x22 (wrap64 (x23 + 1))) else (none)) else (impl_HarmlessMarks.l0 k x0 x1 x6 x8 x22 (wrap64 (x23 + 1)))))) else (some (x8, true))
def impl_HarmlessMarks.f (k : Nat) (a0 : Int) (l1 : List Int) : Option (List Int × Bool) := (impl_WorstOfMarks.f k a0 l1).bind fun bt180 => (if bt180.2 = true then (impl_HarmlessMarks.l0 k a0 l1 bt180.1 (([] : List Int)) (l1.length : Int) 0) else (some (([] : List Int), false)))
theorem impl_HarmlessMarks.mono_l : ∀ k, (∀ y0 y1 y2 y3 y4 y5, LeO (impl_HarmlessMarks.l0 k y0 y1 y2 y3 y4 y5) (impl_HarmlessMarks.l0 (k + 1) y0 y1 y2 y3 y4 y5))
  | 0 => fun _ _ _ _ _ _ r h => by simp [impl_HarmlessMarks.l0] at h
  | k + 1 => by
    have ih0 := impl_HarmlessMarks.mono_l k
    · intro y0 y1 y2 y3 y4 y5
      unfold impl_HarmlessMarks.l0
      repeat' first
      | (with_reducible exact ih0 _ _ _ _ _ _)
      | (with_reducible exact impl_WorstOfMarks.mono _ _ _)
      | (with_reducible exact impl_marked.mono _ _ _)
      | (with_reducible exact LeO.refl _)
      | (with_reducible exact LeO.none _)
      | (with_reducible refine LeO.ite ?_ ?_)
      | (with_reducible refine LeO.bind ?_ (fun _ => ?_))
      | exact ih0 _ _ _ _ _ _
      | exact impl_WorstOfMarks.mono _ _ _
      | exact impl_marked.mono _ _ _
      | exact LeO.none _
      | refine LeO.ite ?_ ?_
      | refine LeO.bind ?_ (fun _ => ?_)
theorem impl_HarmlessMarks.mono : ∀ a0 a1 k, LeO (impl_HarmlessMarks.f k a0 a1) (impl_HarmlessMarks.f (k + 1) a0 a1) := by
  intro a0 a1 k
  have ih0 := impl_HarmlessMarks.mono_l k
  unfold impl_HarmlessMarks.f
  repeat' first
      | (with_reducible exact ih0 _ _ _ _ _ _)
      | (with_reducible exact impl_WorstOfMarks.mono _ _ _)
      | (with_reducible exact impl_marked.mono _ _ _)
      | (with_reducible exact LeO.refl _)
      | (with_reducible exact LeO.none _)
      | (with_reducible refine LeO.ite ?_ ?_)
      | (with_reducible refine LeO.bind ?_ (fun _ => ?_))
      | exact ih0 _ _ _ _ _ _
      | exact impl_WorstOfMarks.mono _ _ _
      | exact impl_marked.mono _ _ _
      | exact LeO.none _
      | refine LeO.ite ?_ ?_
      | refine LeO.bind ?_ (fun _ => ?_)
set_option maxHeartbeats 8000000 in
set_option maxRecDepth 100000 in
theorem impl_HarmlessMarks.calls (k : Nat) (a0 : Int) (A1 : Option Addr) (c1 : Nat) (l1 : List Int) (r1 : List Int) (r2 : Bool) (w : World) (hr1 : Kd.C (Kd.int .i64) w A1 l1.length l1) (hc1 : l1.length ≤ c1) (h : impl_HarmlessMarks.f k a0 l1 = some (r1, r2)) :
    Calls Try.prog 23 #[.int .i64 a0, .slice A1 l1.length c1] w fun e w' => ∃ v0_ : Value, e = .returned (.tuple #[v0_, .bool r2]) ∧ Kd.R (Kd.int .i64) 3 w' w.heap.size (fun _ => True) v0_ r1 ∧ Below w.heap.size w w' := by
  have HR1 := Aside0.mk hr1
  have HC1 := Aside0.mk hc1
  clear hr1 hc1
  have HB := Aside0.mk (Below.refl w.heap.size w)
  have H : ((impl_WorstOfMarks.f k a0 l1).bind fun bt180 => (if bt180.2 = true then (impl_HarmlessMarks.l0 k a0 l1 bt180.1 (([] : List Int)) (l1.length : Int) 0) else (some (([] : List Int), false)))) = some (r1, r2) := h
  clear h
  replace H := Option.bind_eq_some_iff.mp H
  obtain ⟨⟨t180, t181⟩, A30, H⟩ := H
  replace H : (if t181 = true then (impl_HarmlessMarks.l0 k a0 l1 t180 (([] : List Int)) (l1.length : Int) 0) else (some (([] : List Int), false))) = some (r1, r2) := H
  have A3 := Aside0.mk A30
  clear A30
  by_cases c4 : t181 = true
  · subst c4
    have H1 : (impl_HarmlessMarks.l0 k a0 l1 t180 (([] : List Int)) (l1.length : Int) 0) = some (r1, r2) := by rw [if_pos rfl] at H; exact H
    clear H
    have H := H1
    clear H1
    obtain ⟨y182, hy182⟩ : ∃ y_ : List Int, y_ = (([] : List Int)) := ⟨_, rfl⟩
    replace H : (impl_HarmlessMarks.l0 k a0 l1 t180 y182 (l1.length : Int) 0) = some (r1, r2) := by first | (rw [hy182]; with_reducible exact H) | (have H2_ := (Option.bind_some _ _).symm.trans H; rw [hy182]; with_reducible exact H2_) | (have H2_ := (Option.bind_some _ _).symm.trans H; with_reducible exact H2_) | with_reducible exact H | (rw [hy182]; exact H) | exact H
    have Ny182 := Aside0.mk hy182
    clear hy182
    have H' := Aside0.mk H
    clear H
    go_enter Try.func23, Try.ntmps23
    go_wp2_with (first | ((with_reducible refine gate_callee (f := 44) rfl ?_); refine goesL_ (some 15) rfl rfl Try.func44 (by kernel_rfl) rfl #[.int .i64 a0, .slice A1 l1.length c1] rfl (by (try simp only [List.map_toArray, List.map_cons, List.map_nil]); first | done | rfl | (simp only [List.length_drop, List.length_take]; rfl)) ?_; (with_reducible refine (impl_WorstOfMarks.calls k a0 _ _ l1 t180 true _ ?side1 ?side2 A3.out).mono ?_); (case side1 => repeat (first | exact HR1.out | (with_reducible refine Kd.C_alloc ?_ _) | (with_reducible refine Kd.C_drewN ?_ _) | (with_reducible refine Kd.C_drew ?_))); (case side2 => exact HC1.out); rintro e w5 ⟨rfl, hb⟩; refine ⟨_, rfl, ?_⟩; have n0_ := Aside0.mk (below_step (by repeat (first | (with_reducible first | exact HB.out | apply below_alloc | apply pw_below_drewN | apply below_drew1) | exact HB.out)) hb); clear HB; have HB := n0_; clear n0_; (try clear hb); (try clear hb2); (try clear hk); (try clear hi)) | ((with_reducible refine gate_dst (N := 20) rfl ?_); refine Kd.R_lit (Kd.int .i64) _ 3 ?hg (N := 20) ?hd (xs := ([] : List Int)) (inner := []) (ok := fun _ => True) (okp := fun _ => True) ?hr ?hp (fun _ hk => hk) trivial (Below.refl _ _) (Nat.le_refl _) (by simp) ?_; (case hd => rfl); (case hg => rfl); (case hr => first | (go_simp; done) | (go_simp; rfl)); (case hp => exact (Reps.none _ _)); intro v183 w6 ho7 hb hg_ hnew_; clear hg_ hnew_; (first | rw [← Ny182.out] at ho7 | (simp only [Int.reduceToNat] at ho7; rw [← Ny182.out] at ho7)); have n0_ := Aside0.mk (Kd.R_lower ho7 (below_size (by repeat (first | (with_reducible first | exact HB.out | apply below_alloc | apply pw_below_drewN | apply below_drew1) | exact HB.out)))); have n1_ := Aside0.mk (below_step (by repeat (first | (with_reducible first | exact HB.out | apply below_alloc | apply pw_below_drewN | apply below_drew1) | exact HB.out)) hb); clear HB; have HO184 := n0_; have HB := n1_; clear n0_ n1_; clear hb ho7))
    go_loopg [8, 23] k (fun kq v8 v23 w' => ∃ (x8_1 : List Int) (x23_1 : Int), v23 = .int .i64 x23_1 ∧ Aside0 (impl_HarmlessMarks.l0 kq a0 l1 t180 x8_1 (l1.length : Int) x23_1 = some (r1, r2)) ∧ Aside0 (kq ≤ k) ∧ Aside0 (Kd.R (Kd.int .i64) 3 w' w.heap.size (fun _ => True) v8 x8_1) ∧ Aside0 (Below w.heap.size w w'))
    case atStart => exact ⟨(y182), (0), (by first | rfl | (simp; done) | (simp [*]; done)), H', ⟨Nat.le_refl _⟩, ⟨by (with_reducible repeat (first | apply Kd.R_alloc | apply Kd.R_drewN | apply Kd.R_drew)); exact HO184.out⟩, ⟨by repeat (first | (with_reducible first | exact HB.out | apply below_alloc | apply pw_below_drewN | apply below_drew1) | exact HB.out)⟩⟩
    case round =>
      clear H'
      try clear c1
      try clear c2
      try clear p2
      try clear c4
      obtain ⟨x8_1, x23_1, rfl, HA, HK1, HO_8, HB⟩ := hrel
      cases gk with
      | zero => exact absurd HA.out (by simp [impl_HarmlessMarks.l0])
      | succ k1 =>
        have H := HA.out
        clear HA
        simp only [impl_HarmlessMarks.l0] at H
        by_cases c8 : x23_1 < (l1.length : Int)
        · rw [if_pos c8] at H
          have c8b0 : decide (x23_1 < (l1.length : Int)) = true := decide_eq_true c8
          clear c8
          replace H := Option.bind_eq_some_iff.mp H
          obtain ⟨t185, A90, H⟩ := H
          replace H : ((impl_marked.f k1 a0 t185).bind fun bt188 => (if bt188.1 = t180 then (if x8_1.length < 17592186044416 then (impl_HarmlessMarks.l0 k1 a0 l1 t180 (x8_1 ++ [x23_1]) (l1.length : Int) (wrap64 (x23_1 + 1))) else (none)) else (impl_HarmlessMarks.l0 k1 a0 l1 t180 x8_1 (l1.length : Int) (wrap64 (x23_1 + 1))))) = some (r1, r2) := H
          have A9 := Aside0.mk A90
          clear A90
          replace H := Option.bind_eq_some_iff.mp H
          obtain ⟨⟨t188, t189⟩, A100, H⟩ := H
          replace H : (if t188 = t180 then (if x8_1.length < 17592186044416 then (impl_HarmlessMarks.l0 k1 a0 l1 t180 (x8_1 ++ [x23_1]) (l1.length : Int) (wrap64 (x23_1 + 1))) else (none)) else (impl_HarmlessMarks.l0 k1 a0 l1 t180 x8_1 (l1.length : Int) (wrap64 (x23_1 + 1)))) = some (r1, r2) := H
          have A10 := Aside0.mk A100
          clear A100
          by_cases c11 : t188 = t180
          · rw [if_pos c11] at H
            have c11b0 : (t188 == t180) = true := beq_iff_eq.mpr c11
            have c11b1 : (t188 != t180) = false := bne_eq_false_iff_eq.mpr c11
            clear c11
            by_cases c12 : x8_1.length < 17592186044416
            · rw [if_pos c12] at H
              have LMc12 := Aside0.mk c12
              clear c12
              obtain ⟨y190, hy190⟩ : ∃ y_ : List Int, y_ = (x8_1 ++ [x23_1]) := ⟨_, rfl⟩
              replace H : (impl_HarmlessMarks.l0 k1 a0 l1 t180 y190 (l1.length : Int) (wrap64 (x23_1 + 1))) = some (r1, r2) := by first | (rw [hy190]; with_reducible exact H) | (have H2_ := (Option.bind_some _ _).symm.trans H; rw [hy190]; with_reducible exact H2_) | (have H2_ := (Option.bind_some _ _).symm.trans H; with_reducible exact H2_) | with_reducible exact H | (rw [hy190]; exact H) | exact H
              have Ny190 := Aside0.mk hy190
              clear hy190
              have H' := Aside0.mk H
              clear H
              go_wp2_with (first | ((with_reducible refine gate_callee (f := 46) rfl ?_); refine goesL_ (some 30) rfl rfl Try.func46 (by kernel_rfl) rfl #[.slice A1 l1.length c1, .int .i64 x23_1] rfl (by (try simp only [List.map_toArray, List.map_cons, List.map_nil]); first | done | rfl | (simp only [List.length_drop, List.length_take]; rfl)) ?_; (with_reducible refine (impl_without.calls _ _ l1 x23_1 t185 _ ?side1 ?side2 A9.out).mono ?_); (case side1 => repeat (first | exact HR1.out | exact (Kd.C_below HR1.out HB.out) | (with_reducible refine Kd.C_alloc ?_ _) | (with_reducible refine Kd.C_drewN ?_ _) | (with_reducible refine Kd.C_drew ?_))); (case side2 => exact HC1.out); rintro e w13 ⟨v186, rfl, ho0, hb⟩; refine ⟨_, rfl, ?_⟩; have n0_ := Aside0.mk (Kd.R_elder' (by (with_reducible repeat (first | apply Kd.R_alloc | apply Kd.R_drewN | apply Kd.R_drew)); exact HO_8.out) (Kd.R_base ho0) hb); have n1_ := Aside0.mk (Kd.R_lower (Kd.R_new' ho0 (Kd.R_lt (by (with_reducible repeat (first | apply Kd.R_alloc | apply Kd.R_drewN | apply Kd.R_drew)); exact HO_8.out))) (below_size (by repeat (first | (with_reducible first | exact HB.out | apply below_alloc | apply pw_below_drewN | apply below_drew1) | exact HB.out)))); have n2_ := Aside0.mk (below_step (by repeat (first | (with_reducible first | exact HB.out | apply below_alloc | apply pw_below_drewN | apply below_drew1) | exact HB.out)) hb); clear HO_8; clear HB; have HO_8 := n0_; have HO187 := n1_; have HB := n2_; clear n0_ n1_ n2_; (try clear hb); (try clear hb2); (try clear hk); (try clear hi); (try clear ho0); obtain ⟨Ao14, co14, eo14⟩ := Kd.R_slice HO187.out; subst eo14) | ((with_reducible refine gate_callee (f := 45) rfl ?_); refine goesL_ (some 31) rfl rfl Try.func45 (by kernel_rfl) rfl #[.int .i64 a0, .slice Ao14 t185.length co14] rfl (by (try simp only [List.map_toArray, List.map_cons, List.map_nil]); first | done | rfl | (simp only [List.length_drop, List.length_take]; rfl)) ?_; (with_reducible refine (impl_marked.calls k1 a0 _ _ t185 t188 t189 _ ?side1 ?side2 A10.out).mono ?_); (case side1 => repeat (first | exact (Kd.R_reads' HO187.out).2.2 | (with_reducible refine Kd.C_alloc ?_ _) | (with_reducible refine Kd.C_drewN ?_ _) | (with_reducible refine Kd.C_drew ?_))); (case side2 => exact (Kd.R_reads' HO187.out).2.1); rintro e w15 ⟨rfl, hb⟩; refine ⟨_, rfl, ?_⟩; have n0_ := Aside0.mk (Kd.R_below (by (with_reducible repeat (first | apply Kd.R_alloc | apply Kd.R_drewN | apply Kd.R_drew)); exact HO_8.out) hb); have n1_ := Aside0.mk (Kd.R_below (by (with_reducible repeat (first | apply Kd.R_alloc | apply Kd.R_drewN | apply Kd.R_drew)); exact HO187.out) hb); have n2_ := Aside0.mk (below_step (by repeat (first | (with_reducible first | exact HB.out | apply below_alloc | apply pw_below_drewN | apply below_drew1) | exact HB.out)) hb); clear HO_8; clear HO187; clear HB; have HO_8 := n0_; have HO187 := n1_; have HB := n2_; clear n0_ n1_ n2_; (try clear hb); (try clear hb2); (try clear hk); (try clear hi)) | ((with_reducible refine gate_builtin (b := .append) (xs := #[.tmp 37, .tmp 39]) rfl ?_); at_builtin; refine Kd.R_append (Kd.int .i64) (w0 := w) w.heap.size rfl (.tmp 37) (.tmp 39) 22 3 (.int .i64 0) 8 rfl Try.underlying22 info3 rfl (by decide) (by omega) u8 x8_1 x23_1 [.int .i64 x23_1] (fun k_ => some k_ ≠ (.slice Ao14 t185.length co14 : Value).ownBlock) (fun _ => False) rfl rfl ?aP (fun _ hk => hk.elim) ?aF ?aO ?aB ?aS ?aL ?_; (case aP => exact rfl); (case aB => exact (by repeat (first | (with_reducible first | exact HB.out | apply below_alloc | apply pw_below_drewN | apply below_drew1) | exact HB.out))); (case aF => exact (fun k_ hk => Kd.fresh' (Kd.R_lt (by (with_reducible repeat (first | apply Kd.R_alloc | apply Kd.R_drewN | apply Kd.R_drew)); exact HO187.out)) k_ hk)); (case aO => exact (by (with_reducible repeat (first | apply Kd.R_alloc | apply Kd.R_drewN | apply Kd.R_drew)); exact Kd.R_mono HO_8.out (fun _ hk => hk.2))); (case aS => exact (below_size (by repeat (first | (with_reducible first | exact HB.out | apply below_alloc | apply pw_below_drewN | apply below_drew1) | exact HB.out)))); (case aL => have := LMc12.out; omega); intro v191 w16 ho hb hg hat; rw [← Ny190.out] at ho; have n0_ := Aside0.mk (Kd.R_after (ok := (fun _ => True)) (by (with_reducible repeat (first | apply Kd.R_alloc | apply Kd.R_drewN | apply Kd.R_drew)); exact HO187.out) hg hat); have n1_ := Aside0.mk (hb); have n2_ := Aside0.mk (ho); clear HO187; clear HB; clear HO_8; have HO187 := n0_; have HB := n1_; have HO192 := n2_; clear n0_ n1_ n2_; clear ho hb hg hat))
              go_roundg k1
              case measure => have := HK1.out; omega
              case rel => exact ⟨(y190), (wrap64 (x23_1 + 1)), (by first | rfl | (simp; done) | (simp [*]; done)), H', ⟨by have := HK1.out; omega⟩, ⟨by (with_reducible repeat (first | apply Kd.R_alloc | apply Kd.R_drewN | apply Kd.R_drew)); exact Kd.R_mono HO192.out (fun _ hk => trivial)⟩, ⟨by repeat (first | (with_reducible first | exact HB.out | apply below_alloc | apply pw_below_drewN | apply below_drew1) | exact HB.out)⟩⟩
            · rw [if_neg c12] at H
              exact absurd H (by simp)
          · rw [if_neg c11] at H
            have c11b0 : (t188 == t180) = false := beq_eq_false_iff_ne.mpr c11
            have c11b1 : (t188 != t180) = true := bne_iff_ne.mpr c11
            have H' := Aside0.mk H
            clear H
            go_wp2_with (first | ((with_reducible refine gate_callee (f := 46) rfl ?_); refine goesL_ (some 30) rfl rfl Try.func46 (by kernel_rfl) rfl #[.slice A1 l1.length c1, .int .i64 x23_1] rfl (by (try simp only [List.map_toArray, List.map_cons, List.map_nil]); first | done | rfl | (simp only [List.length_drop, List.length_take]; rfl)) ?_; (with_reducible refine (impl_without.calls _ _ l1 x23_1 t185 _ ?side1 ?side2 A9.out).mono ?_); (case side1 => repeat (first | exact HR1.out | exact (Kd.C_below HR1.out HB.out) | (with_reducible refine Kd.C_alloc ?_ _) | (with_reducible refine Kd.C_drewN ?_ _) | (with_reducible refine Kd.C_drew ?_))); (case side2 => exact HC1.out); rintro e w17 ⟨v186, rfl, ho0, hb⟩; refine ⟨_, rfl, ?_⟩; have n0_ := Aside0.mk (Kd.R_elder' (by (with_reducible repeat (first | apply Kd.R_alloc | apply Kd.R_drewN | apply Kd.R_drew)); exact HO_8.out) (Kd.R_base ho0) hb); have n1_ := Aside0.mk (Kd.R_lower (Kd.R_new' ho0 (Kd.R_lt (by (with_reducible repeat (first | apply Kd.R_alloc | apply Kd.R_drewN | apply Kd.R_drew)); exact HO_8.out))) (below_size (by repeat (first | (with_reducible first | exact HB.out | apply below_alloc | apply pw_below_drewN | apply below_drew1) | exact HB.out)))); have n2_ := Aside0.mk (below_step (by repeat (first | (with_reducible first | exact HB.out | apply below_alloc | apply pw_below_drewN | apply below_drew1) | exact HB.out)) hb); clear HO_8; clear HB; have HO_8 := n0_; have HO187 := n1_; have HB := n2_; clear n0_ n1_ n2_; (try clear hb); (try clear hb2); (try clear hk); (try clear hi); (try clear ho0); obtain ⟨Ao18, co18, eo18⟩ := Kd.R_slice HO187.out; subst eo18) | ((with_reducible refine gate_callee (f := 45) rfl ?_); refine goesL_ (some 31) rfl rfl Try.func45 (by kernel_rfl) rfl #[.int .i64 a0, .slice Ao18 t185.length co18] rfl (by (try simp only [List.map_toArray, List.map_cons, List.map_nil]); first | done | rfl | (simp only [List.length_drop, List.length_take]; rfl)) ?_; (with_reducible refine (impl_marked.calls k1 a0 _ _ t185 t188 t189 _ ?side1 ?side2 A10.out).mono ?_); (case side1 => repeat (first | exact (Kd.R_reads' HO187.out).2.2 | (with_reducible refine Kd.C_alloc ?_ _) | (with_reducible refine Kd.C_drewN ?_ _) | (with_reducible refine Kd.C_drew ?_))); (case side2 => exact (Kd.R_reads' HO187.out).2.1); rintro e w19 ⟨rfl, hb⟩; refine ⟨_, rfl, ?_⟩; have n0_ := Aside0.mk (Kd.R_below (by (with_reducible repeat (first | apply Kd.R_alloc | apply Kd.R_drewN | apply Kd.R_drew)); exact HO_8.out) hb); have n1_ := Aside0.mk (Kd.R_below (by (with_reducible repeat (first | apply Kd.R_alloc | apply Kd.R_drewN | apply Kd.R_drew)); exact HO187.out) hb); have n2_ := Aside0.mk (below_step (by repeat (first | (with_reducible first | exact HB.out | apply below_alloc | apply pw_below_drewN | apply below_drew1) | exact HB.out)) hb); clear HO_8; clear HO187; clear HB; have HO_8 := n0_; have HO187 := n1_; have HB := n2_; clear n0_ n1_ n2_; (try clear hb); (try clear hb2); (try clear hk); (try clear hi)))
            go_roundg k1
            case measure => have := HK1.out; omega
            case rel => exact ⟨(x8_1), (wrap64 (x23_1 + 1)), (by first | rfl | (simp; done) | (simp [*]; done)), H', ⟨by have := HK1.out; omega⟩, ⟨by (with_reducible repeat (first | apply Kd.R_alloc | apply Kd.R_drewN | apply Kd.R_drew)); exact Kd.R_mono HO_8.out (fun _ hk => trivial)⟩, ⟨by repeat (first | (with_reducible first | exact HB.out | apply below_alloc | apply pw_below_drewN | apply below_drew1) | exact HB.out)⟩⟩
        · rw [if_neg c8] at H
          have c8b0 : decide (x23_1 < (l1.length : Int)) = false := decide_eq_false c8
          clear c8
          simp only [Option.some.injEq, Prod.mk.injEq] at H
          obtain ⟨rfl, rfl⟩ := H
          go_wp2
          go_ret2
          exact ⟨_, by first | rfl | (simp [errW_none, errW_some] <;> rfl) | (simp [*, errW_none, errW_some] <;> rfl), by (with_reducible repeat (first | apply Kd.R_alloc | apply Kd.R_drewN | apply Kd.R_drew)); exact HO_8.out, by repeat (first | (with_reducible first | exact HB.out | apply below_alloc | apply pw_below_drewN | apply below_drew1) | exact HB.out)⟩
  · replace c4 := Bool.eq_false_iff.mpr c4
    subst c4
    have H1 : (some (([] : List Int), false)) = some (r1, r2) := by rw [if_neg (show ¬ (false = true) by decide)] at H; exact H
    clear H
    have H := H1
    clear H1
    simp only [Option.some.injEq, Prod.mk.injEq] at H
    obtain ⟨rfl, rfl⟩ := H
    go_enter Try.func23, Try.ntmps23
    go_wp2_with (first | ((with_reducible refine gate_callee (f := 44) rfl ?_); refine goesL_ (some 15) rfl rfl Try.func44 (by kernel_rfl) rfl #[.int .i64 a0, .slice A1 l1.length c1] rfl (by (try simp only [List.map_toArray, List.map_cons, List.map_nil]); first | done | rfl | (simp only [List.length_drop, List.length_take]; rfl)) ?_; (with_reducible refine (impl_WorstOfMarks.calls k a0 _ _ l1 t180 false _ ?side1 ?side2 A3.out).mono ?_); (case side1 => repeat (first | exact HR1.out | (with_reducible refine Kd.C_alloc ?_ _) | (with_reducible refine Kd.C_drewN ?_ _) | (with_reducible refine Kd.C_drew ?_))); (case side2 => exact HC1.out); rintro e w20 ⟨rfl, hb⟩; refine ⟨_, rfl, ?_⟩; have n0_ := Aside0.mk (below_step (by repeat (first | (with_reducible first | exact HB.out | apply below_alloc | apply pw_below_drewN | apply below_drew1) | exact HB.out)) hb); clear HB; have HB := n0_; clear n0_; (try clear hb); (try clear hb2); (try clear hk); (try clear hi)))
    go_ret2
    exact ⟨_, by first | rfl | (simp [errW_none, errW_some] <;> rfl) | (simp [*, errW_none, errW_some] <;> rfl), by first | exact Kd.R_nil _ _ _ _ _ | exact Kd.N_nil _ _ _ _ _ | exact Kd.V_nil _ _ _ _ _ | exact Kd.Q_nil _ _ _ _ _ | exact Kd.S_nil _ _ _ _ _, by repeat (first | (with_reducible first | exact HB.out | apply below_alloc | apply pw_below_drewN | apply below_drew1) | exact HB.out)⟩

end Go.Proofs.Ytalalaepdjmelaa.PrintF
