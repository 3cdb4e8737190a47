-- written by this session's own driver (wip/gen.py) with the kit's print and contracts of our own
import Derived.Test.YtfelkkonjbhkjaaPrintA0
import Derived.Test.YtfelkkonjbhkjaaPrintA1
import Derived.Test.YtfelkkonjbhkjaaPrintA2
import Derived.Test.YtfelkkonjbhkjaaPrintA3
import Derived.Test.YtfelkkonjbhkjaaPrintA4
import Derived.Test.YtfelkkonjbhkjaaPrintA5
import Derived.Test.YtfelkkonjbhkjaaPrintA6
namespace Go.Proofs.Ytfelkkonjbhkjaa.PrintA
open Go.RowKit Go.Proofs.YtfelkkonjbhkjaaLib Go.Proofs.YtfelkkonjbhkjaaW.PrintWords Go.Proofs.YtfelkkonjbhkjaaW.PrintLast Go.Proofs.YtfelkkonjbhkjaaW.PrintMore
attribute [local go_sem] max2_int min2_int max_two min_two max_three min_three max_four min_four   -- for this text's walks alone
set_option linter.unusedVariables false
set_option linter.unusedSimpArgs false

/-! ### impl_FewestTests: function 8, a contract of our own -/
def isH (a0 a1 : Int) : Bool := (decide (1 ≤ a0) && decide (a0 ≤ 10)) && (decide (0 ≤ a1) && decide (a1 ≤ 1000))
theorem isH_true {a0 a1 : Int} (h : isH a0 a1 = true) : (1 ≤ a0 ∧ a0 ≤ 10) ∧ (0 ≤ a1 ∧ a1 ≤ 1000) := by
  unfold isH at h
  simpa using h
theorem isH_calls (a0 a1 : Int) (W : World) : Calls Try.prog 33 #[.int .i64 a0, .int .i64 a1] W fun e w' => e = .returned (.bool (isH a0 a1)) ∧ W = w' := impl_isHouse.calls0 a0 a1 _ W (impl_isHouse_is a0 a1)
def impl_FewestTests.f (a0 a1 : Int) : Option (Int × Bool) := some (if isH a0 a1 = true then ((few a0.toNat a1 : Int), true) else (0, false))
set_option maxHeartbeats 4000000 in
set_option maxRecDepth 100000 in
theorem impl_FewestTests.calls (a0 a1 : Int) (r1 : Int) (r2 : Bool) (w : World) (h : impl_FewestTests.f a0 a1 = some (r1, r2)) :
    Calls Try.prog 8 #[.int .i64 a0, .int .i64 a1] w fun e w' => e = .returned (.tuple #[.int .i64 r1, .bool r2]) ∧ Below w.heap.size w w' := by
  unfold impl_FewestTests.f at h
  have hq := Option.some.inj h
  have HW := Aside0.mk (isH_calls a0 a1)
  have HB := Aside0.mk (Below.refl w.heap.size w)
  clear h
  cases hh : isH a0 a1 with
  | false =>
    rw [hh] at HW
    rw [hh, if_neg (by decide)] at hq
    obtain ⟨rfl, rfl⟩ := Prod.mk.inj hq
    clear hq hh
    go_enter Try.func8, Try.ntmps8
    go_wp2_with (go_at_call 33; refine (HW.out _).mono ?_; rintro e w' ⟨rfl, rfl⟩)
    go_ret2
    exact ⟨rfl, HB.out⟩
  | true =>
    rw [hh] at HW
    rw [hh, if_pos rfl] at hq
    obtain ⟨h1, h2⟩ := isH_true hh
    obtain ⟨e0, rfl⟩ : ∃ m : Nat, a0 = m := ⟨a0.toNat, by omega⟩
    rw [Int.toNat_natCast] at hq
    obtain ⟨rfl, rfl⟩ := Prod.mk.inj hq
    have HF : Aside0 (∀ (g : Nat) (W : World), IsReaches W g → Calls Try.prog 41 #[.pointer (some ⟨g, 0, none⟩), .int .i64 e0, .int .i64 a1] W fun e' w' => e' = .returned (.int .i64 (few e0 a1)) ∧ W = w') := ⟨fun g W hR => fewest_calls g e0 a1 W (by omega) (by omega) hR⟩
    clear hq hh h1 h2
    generalize (few e0 a1 : Int) = q at HF ⊢
    go_enter Try.func8, Try.ntmps8
    go_wp2_with (first
      | (go_at_call 33; refine (HW.out _).mono ?_; rintro e w' ⟨rfl, rfl⟩)
      | (go_at_call 34; refine (newReaches_calls _).mono ?_; rintro e w' ⟨g, rfl, hR, hg, hb⟩; have HR := Aside0.mk hR; have n_ := Aside0.mk (below_step HB.out hb); clear HB hR hb hg; have HB := n_; clear n_)
      | (go_at_call 41; refine (HF.out _ _ HR.out).mono ?_; rintro e w' ⟨rfl, rfl⟩))
    go_ret2
    exact ⟨rfl, HB.out⟩

/-! ### spec_FewestTests: function 9 -/
def spec_FewestTests.f (k : Nat) (a0 : Int) (a1 : Int) : Option (Int × Bool) := (spec_flBoth.f a0 a1).bind fun t186 => (if t186 = true then ((spec_flFew.f k a0 a1).bind fun t187 => (some (t187, true))) else (some (0, false)))
theorem spec_FewestTests.mono : ∀ a0 a1 k, LeO (spec_FewestTests.f k a0 a1) (spec_FewestTests.f (k + 1) a0 a1) := by
  intro a0 a1 k
  unfold spec_FewestTests.f
  repeat' first
      | (with_reducible exact spec_flFew.mono _ _ _)
      | (with_reducible exact LeO.refl _)
      | (with_reducible exact LeO.none _)
      | (with_reducible refine LeO.ite ?_ ?_)
      | (with_reducible refine LeO.bind ?_ (fun _ => ?_))
      | exact spec_flFew.mono _ _ _
      | exact LeO.none _
      | refine LeO.ite ?_ ?_
      | refine LeO.bind ?_ (fun _ => ?_)
set_option maxHeartbeats 8000000 in
set_option maxRecDepth 100000 in
theorem spec_FewestTests.calls (k : Nat) (a0 : Int) (a1 : Int) (r1 : Int) (r2 : Bool) (w : World) (h : spec_FewestTests.f k a0 a1 = some (r1, r2)) :
    Calls Try.prog 9 #[.int .i64 a0, .int .i64 a1] w fun e w' => e = .returned (.tuple #[.int .i64 r1, .bool r2]) ∧ Below w.heap.size w w' := by
  have HB := Aside0.mk (Below.refl w.heap.size w)
  have H : ((spec_flBoth.f a0 a1).bind fun t186 => (if t186 = true then ((spec_flFew.f k a0 a1).bind fun t187 => (some (t187, true))) else (some (0, false)))) = some (r1, r2) := h
  clear h
  replace H := Option.bind_eq_some_iff.mp H
  obtain ⟨t186, A30, H⟩ := H
  replace H : (if t186 = true then ((spec_flFew.f k a0 a1).bind fun t187 => (some (t187, true))) else (some (0, false))) = some (r1, r2) := H
  have A3 := Aside0.mk A30
  clear A30
  by_cases c4 : t186 = true
  · subst c4
    have H1 : ((spec_flFew.f k a0 a1).bind fun t187 => (some (t187, true))) = some (r1, r2) := by rw [if_pos rfl] at H; exact H
    clear H
    have H := H1
    clear H1
    replace H := Option.bind_eq_some_iff.mp H
    obtain ⟨t187, A50, H⟩ := H
    replace H : (some (t187, true)) = some (r1, r2) := H
    have A5 := Aside0.mk A50
    clear A50
    simp only [Option.some.injEq, Prod.mk.injEq] at H
    obtain ⟨rfl, rfl⟩ := H
    go_enter Try.func9, Try.ntmps9
    go_wp2_with (first | ((with_reducible refine gate_callee (f := 39) rfl ?_); refine goesL_ (some 8) rfl rfl Try.func39 (by kernel_rfl) rfl #[.int .i64 a0, .int .i64 a1] rfl (by (try simp only [List.map_toArray, List.map_cons, List.map_nil]); first | done | rfl | (simp only [List.length_drop, List.length_take]; rfl)) ?_; (with_reducible refine (spec_flBoth.calls0 a0 a1 true _ A3.out).mono ?_); rintro e w' ⟨rfl, rfl⟩; refine ⟨_, rfl, ?_⟩) | ((with_reducible refine gate_callee (f := 42) rfl ?_); refine goesL_ (some 12) rfl rfl Try.func42 (by kernel_rfl) rfl #[.int .i64 a0, .int .i64 a1] rfl (by (try simp only [List.map_toArray, List.map_cons, List.map_nil]); first | done | rfl | (simp only [List.length_drop, List.length_take]; rfl)) ?_; (with_reducible refine (spec_flFew.calls k a0 a1 t187 _ A5.out).mono ?_); rintro e w6 ⟨rfl, hb⟩; refine ⟨_, rfl, ?_⟩; have n0_ := Aside0.mk (below_step (by repeat (first | (with_reducible first | exact HB.out | apply below_alloc | apply pw_below_drewN | apply below_drew1) | exact HB.out)) hb); clear HB; have HB := n0_; clear n0_; (try clear hb); (try clear hb2); (try clear hk); (try clear hi)))
    go_ret2
    exact ⟨by first | rfl | (simp [errW_none, errW_some] <;> rfl) | (simp [*, errW_none, errW_some] <;> rfl), by repeat (first | (with_reducible first | exact HB.out | apply below_alloc | apply pw_below_drewN | apply below_drew1) | exact HB.out)⟩
  · replace c4 := Bool.eq_false_iff.mpr c4
    subst c4
    have H1 : (some (0, false)) = some (r1, r2) := by rw [if_neg (show ¬ (false = true) by decide)] at H; exact H
    clear H
    have H := H1
    clear H1
    simp only [Option.some.injEq, Prod.mk.injEq] at H
    obtain ⟨rfl, rfl⟩ := H
    go_enter Try.func9, Try.ntmps9
    go_wp2_with (first | ((with_reducible refine gate_callee (f := 39) rfl ?_); refine goesL_ (some 8) rfl rfl Try.func39 (by kernel_rfl) rfl #[.int .i64 a0, .int .i64 a1] rfl (by (try simp only [List.map_toArray, List.map_cons, List.map_nil]); first | done | rfl | (simp only [List.length_drop, List.length_take]; rfl)) ?_; (with_reducible refine (spec_flBoth.calls0 a0 a1 false _ A3.out).mono ?_); rintro e w' ⟨rfl, rfl⟩; refine ⟨_, rfl, ?_⟩))
    go_ret2
    exact ⟨by first | rfl | (simp [errW_none, errW_some] <;> rfl) | (simp [*, errW_none, errW_some] <;> rfl), by repeat (first | (with_reducible first | exact HB.out | apply below_alloc | apply pw_below_drewN | apply below_drew1) | exact HB.out)⟩

/-! ### impl_reaches_isFirst: function 43, a contract of our own -/
def goodB (e t : Nat) (n f : Int) : Bool := decide (f - 1 ≤ rch (t - 1) (e - 1)) && decide (n - f ≤ rch (t - 1) e)
set_option maxHeartbeats 4000000 in
set_option maxRecDepth 100000 in
theorem isFirst_calls (g e t : Nat) (n f : Int) (w : World) (he0 : 1 ≤ e) (he : e ≤ 10) (ht0 : 1 ≤ t) (ht : t ≤ 1000) (hf : 1 ≤ f) (hfn : f ≤ n) (hn : n ≤ 1000) (hR : IsReaches w g) :
    Calls Try.prog 43 #[.pointer (some ⟨g, 0, none⟩), .int .i64 t, .int .i64 e, .int .i64 n, .int .i64 f] w fun e' w' => e' = .returned (.bool (goodB e t n f)) ∧ w = w' := by
  obtain ⟨t, rfl⟩ : ∃ q, t = q + 1 := ⟨t - 1, by omega⟩
  obtain ⟨e, rfl⟩ : ∃ q, e = q + 1 := ⟨e - 1, by omega⟩
  have hx0 := hR.at_ t e (by omega) (by omega)
  have hx1 := hR.at_ t (e + 1) (by omega) (by omega)
  have hg : goodB (e + 1) (t + 1) n f = (decide (f - 1 ≤ rch t e) && decide (n - f ≤ rch t (e + 1))) := rfl
  rw [hg]
  clear hg hR
  generalize rch t e = r1 at hx0 ⊢
  generalize rch t (e + 1) = r2 at hx1 ⊢
  have z1 : (0 : Int) < ((t + 1 : Nat) : Int) := by omega
  have z2 : (0 : Int) ≤ (t : Int) := by omega
  have z3 : (t : Int) < 1001 := by omega
  have z4 : (0 : Int) ≤ (e : Int) := by omega
  have z5 : (e : Int) < 11 := by omega
  have z6 : (0 : Int) ≤ ((e + 1 : Nat) : Int) := by omega
  have z7 : ((e + 1 : Nat) : Int) < 11 := by omega
  have hw1 : IntKind.i64.wrap (((t + 1 : Nat) : Int) - 1) = (t : Int) := by rw [i64_w]; unfold wrap64; omega
  have hw2 : IntKind.i64.wrap (((e + 1 : Nat) : Int) - 1) = (e : Int) := by clear hw1; rw [i64_w]; unfold wrap64; omega
  have hw3 : IntKind.i64.wrap (f - 1) = f - 1 := by clear hw1 hw2; rw [i64_w]; unfold wrap64; omega
  have hw4 : IntKind.i64.wrap (n - f) = n - f := by clear hw1 hw2 hw3; rw [i64_w]; unfold wrap64; omega
  obtain ⟨tz, htz⟩ : ∃ tz : Int, ((t + 1 : Nat) : Int) = tz := ⟨_, rfl⟩
  obtain ⟨ez, hez⟩ : ∃ ez : Int, ((e + 1 : Nat) : Int) = ez := ⟨_, rfl⟩
  have hxe : (ez.toNat) = e + 1 := by omega
  rw [htz] at z1 hw1 ⊢
  rw [hez] at z6 z7 hw2 ⊢
  rw [← hxe] at hx1
  clear htz hez hxe
  by_cases c1 : f - 1 ≤ r1
  · have d1 : decide (f - 1 ≤ r1) = true := decide_eq_true c1
    by_cases c2 : n - f ≤ r2
    · have d2 : decide (n - f ≤ r2) = true := decide_eq_true c2
      rw [d1, d2]
      clear he he0 ht0 ht hf hfn hn c1 c2
      go_enter Try.func43, Try.ntmps43
      go_wp2
      go_ret
      exact ⟨rfl, rfl⟩
    · have d2 : decide (n - f ≤ r2) = false := decide_eq_false c2
      rw [d1, d2]
      clear he he0 ht0 ht hf hfn hn c1 c2
      go_enter Try.func43, Try.ntmps43
      go_wp2
      go_ret
      exact ⟨rfl, rfl⟩
  · have d1 : decide (f - 1 ≤ r1) = false := decide_eq_false c1
    rw [d1, Bool.false_and]
    clear he he0 ht0 ht hf hfn hn c1
    go_enter Try.func43, Try.ntmps43
    go_wp2
    go_ret
    exact ⟨rfl, rfl⟩

/-! ### impl_GoodFloors: function 10, a contract of our own -/
theorem reaches_ne {W : World} {g b : Nat} {ok : Nat → Prop} {v : Value} {xs : List Int} (h : IsReaches W g) (ho : Kd.R (Kd.int .i64) 3 W b ok v xs) : some g ≠ v.ownBlock := fun he => by
  obtain ⟨cells, hc⟩ := Kd.R_typed ho g he.symm
  have h1 := h.out.symm.trans hc
  injection h1 with h1
  injection h1 with _ h2
  exact absurd h2 (by decide)
/-- The first of the good floors. -/
def goodP (P : Int → Bool) (i : Nat) : List Int := ((List.range i).map (fun (q : Nat) => (q : Int) + 1)).filter P
theorem goodP_succ (P : Int → Bool) (i : Nat) : goodP P (i + 1) = if P ((i : Int) + 1) = true then goodP P i ++ [(i : Int) + 1] else goodP P i := by
  unfold goodP
  rw [List.range_succ, List.map_append, List.filter_append]
  by_cases h : P ((i : Int) + 1) = true
  · rw [if_pos h]; simp [h]
  · rw [if_neg h]; simp [h]
theorem goodP_len (P : Int → Bool) (i : Nat) : (goodP P i).length ≤ i := by
  unfold goodP
  have := List.length_filter_le P ((List.range i).map (fun (q : Nat) => (q : Int) + 1))
  simpa using this
def goodL (e n : Nat) : List Int := goodP (goodB e (few e n) n) n
def impl_GoodFloors.f (a0 a1 : Int) : Option (List Int × Bool) := some (if isH a0 a1 = true then (goodL a0.toNat a1.toNat, true) else ([], false))
set_option maxHeartbeats 8000000 in
set_option maxRecDepth 100000 in
theorem impl_GoodFloors.calls (a0 a1 : Int) (r1 : List Int) (r2 : Bool) (w : World) (h : impl_GoodFloors.f a0 a1 = some (r1, r2)) :
    Calls Try.prog 10 #[.int .i64 a0, .int .i64 a1] w fun e w' => ∃ v0_ : Value, e = .returned (.tuple #[v0_, .bool r2]) ∧ Kd.R (Kd.int .i64) 3 w' w.heap.size (fun _ => True) v0_ r1 ∧ Below w.heap.size w w' := by
  unfold impl_GoodFloors.f at h
  have hq := Option.some.inj h
  have HW := Aside0.mk (isH_calls a0 a1)
  have HB := Aside0.mk (Below.refl w.heap.size w)
  clear h
  cases hh : isH a0 a1 with
  | false =>
    rw [hh] at HW
    rw [hh, if_neg (by decide)] at hq
    obtain ⟨rfl, rfl⟩ := Prod.mk.inj hq
    clear hq hh
    go_enter Try.func10, Try.ntmps10
    go_wp2_with (go_at_call 33; refine (HW.out _).mono ?_; rintro e w' ⟨rfl, rfl⟩)
    go_ret2
    exact ⟨_, rfl, Kd.R_nil _ _ _ _ _, HB.out⟩
  | true =>
    rw [hh] at HW
    rw [hh, if_pos rfl] at hq
    obtain ⟨h1, h2⟩ := isH_true hh
    obtain ⟨e0, rfl⟩ : ∃ m : Nat, a0 = m := ⟨a0.toNat, by omega⟩
    obtain ⟨n, rfl⟩ : ∃ m : Nat, a1 = m := ⟨a1.toNat, by omega⟩
    rw [Int.toNat_natCast, Int.toNat_natCast] at hq
    obtain ⟨hq1, rfl⟩ := Prod.mk.inj hq
    have HF : Aside0 (∀ (g : Nat) (W : World), IsReaches W g → Calls Try.prog 41 #[.pointer (some ⟨g, 0, none⟩), .int .i64 e0, .int .i64 n] W fun e' w' => e' = .returned (.int .i64 (few e0 n)) ∧ W = w') := ⟨fun g W hR => fewest_calls g e0 n W (by omega) (by omega) hR⟩
    have hfp := few_pos e0 (n : Int)
    have hfl := few_le e0 (n : Int)
    have HI : Aside0 (∀ (g : Nat) (W : World) (f : Int), IsReaches W g → 1 ≤ f → f ≤ n → Calls Try.prog 43 #[.pointer (some ⟨g, 0, none⟩), .int .i64 (few e0 n), .int .i64 e0, .int .i64 n, .int .i64 f] W fun e' w' => e' = .returned (.bool (goodB e0 (few e0 n) n f)) ∧ W = w') := ⟨fun g W f hR q1 q2 => isFirst_calls g e0 (few e0 n) n f W (by omega) (by omega) (by have := hfp (by omega); omega) hfl q1 q2 (by omega) hR⟩
    have hn2 : n ≤ 1000 := by omega
    have HRES : Aside0 (goodP (goodB e0 (few e0 n) n) n = r1) := ⟨hq1⟩
    have HS := Aside0.mk (goodP_succ (goodB e0 (few e0 n) n))
    have HLN := Aside0.mk (goodP_len (goodB e0 (few e0 n) n))
    have HP0 : Aside0 (goodP (goodB e0 (few e0 n) n) 0 = []) := ⟨rfl⟩
    clear hq hq1 hh h1 h2 hfp hfl
    generalize goodB e0 (few e0 n) n = P at HI HRES HS HLN HP0
    generalize goodP P = G at HRES HS HLN HP0
    generalize (few e0 n : Int) = q at HF HI
    go_enter Try.func10, Try.ntmps10
    go_wp2_with (first
      | (go_at_call 33; refine (HW.out _).mono ?_; rintro e w' ⟨rfl, rfl⟩)
      | (go_at_call 34; refine (newReaches_calls _).mono ?_; rintro e w' ⟨g, rfl, hR, hg, hb⟩; have HR := Aside0.mk hR; have n_ := Aside0.mk (below_step HB.out hb); clear HB hR hb hg; have HB := n_; clear n_)
      | ((with_reducible refine gate_dst (N := 15) rfl ?_); refine Kd.R_lit (Kd.int .i64) _ 3 ?hg (N := 15) ?hd (xs := ([] : List Int)) (inner := []) (ok := fun _ => True) (okp := fun _ => True) ?hr ?hp (fun _ hk => hk) trivial (Below.refl _ _) (Nat.le_refl _) (by simp) ?_; (case hd => rfl); (case hg => rfl); (case hr => first | (go_simp; done) | (go_simp; rfl)); (case hp => exact (Reps.none _ _)); intro v15 w4 ho hb hg_ hnew_; have HO := Aside0.mk (Kd.R_lower ho HB.out.size); have n0_ := Aside0.mk (below_step HB.out hb); have n1_ := Aside0.mk (IsReaches.below HR.out hb); clear HB HR hg_ hnew_ ho hb; have HB := n0_; have HR := n1_; clear n0_ n1_)
      | (go_at_call 41; refine (HF.out _ _ HR.out).mono ?_; rintro e w' ⟨rfl, rfl⟩))
    rw [← HP0.out] at HO
    go_loopg [7, 9] n (fun gg v7 v9 wr => ∃ (i : Nat), v9 = .int .i64 ((i : Int) + 1) ∧ i ≤ n ∧ n - i ≤ gg ∧ Aside0 (Kd.R (Kd.int .i64) 3 wr w.heap.size (fun _ => True) v7 (G i)) ∧ Aside0 (IsReaches wr g) ∧ Aside0 (Below w.heap.size w wr))
    case atStart => exact ⟨0, rfl, Nat.zero_le _, Nat.le_refl _, HO, HR, HB⟩
    case round =>
      clear HO HR HB
      obtain ⟨i, rfl, hi, hgg, HO, HR, HB⟩ := hrel
      by_cases hlt : i < n
      · have hltz : (i : Int) + 1 ≤ (n : Int) := by omega
        have hs := HS.out i
        have HLEN : Aside0 (((G i).length + 1) * 8 ≤ 140737488355328) := ⟨by have := HLN.out i; omega⟩
        have HC : Aside0 (∀ W, IsReaches W g → Calls Try.prog 43 #[.pointer (some ⟨g, 0, none⟩), .int .i64 q, .int .i64 e0, .int .i64 n, .int .i64 ((i : Int) + 1)] W fun e' w' => e' = .returned (.bool (P ((i : Int) + 1))) ∧ W = w') := ⟨fun W hR => HI.out g W _ hR (by omega) hltz⟩
        have hw9 : IntKind.i64.wrap ((i : Int) + 1 + 1) = ((i + 1 : Nat) : Int) + 1 := by rw [i64_w]; unfold wrap64; omega
        obtain ⟨f, hf⟩ : ∃ f : Int, (i : Int) + 1 = f := ⟨_, rfl⟩
        rw [hf] at HC hs hltz hw9 ⊢
        clear hf
        cases hp : P f with
        | true =>
          rw [hp] at HC hs
          rw [if_pos rfl] at hs
          have HS1 := Aside0.mk hs
          clear hs hp
          go_wp2_with (first
            | (go_at_call 43; refine (HC.out _ HR.out).mono ?_; rintro e w' ⟨rfl, rfl⟩)
            | ((with_reducible refine gate_builtin (b := .append) (xs := #[.tmp 31, .tmp 33]) rfl ?_); at_builtin; refine Kd.R_append (Kd.int .i64) (w0 := w) w.heap.size rfl (.tmp 31) (.tmp 33) 26 3 (.int .i64 0) 8 rfl Try.underlying26 info3 rfl (by decide) (by omega) _ (G i) f [.int .i64 f] (fun _ => True) (fun _ => False) rfl rfl ?aP (fun _ hk => hk.elim) ?aF ?aO ?aB ?aS ?aL ?_; (case aP => exact rfl); (case aB => exact HB.out); (case aF => exact (fun _ _ => trivial)); (case aO => exact HO.out); (case aS => exact HB.out.size); (case aL => exact HLEN.out); intro v34 w13 ho hb hg hat; rw [← HS1.out] at ho; have n2_ : Aside0 (IsReaches w13 g) := ⟨⟨blk_grown HR.out.out hg (reaches_ne HR.out HO.out)⟩⟩; clear HB HO HR; have HB := Aside0.mk hb; have HO := Aside0.mk ho; have HR := n2_; clear n2_ ho hb hg hat))
          go_roundg (n - (i + 1))
          case measure => clear hw9; omega
          case rel => exact ⟨i + 1, by go_num, by clear hw9; omega, by clear hw9; omega, HO, HR, HB⟩
        | false =>
          rw [hp] at HC hs
          rw [if_neg (by decide)] at hs
          have HO2 : Aside0 (Kd.R (Kd.int .i64) 3 wr w.heap.size (fun _ => True) u7 (G (i + 1))) := ⟨by rw [hs]; exact HO.out⟩
          clear hs hp HO
          go_wp2_with (go_at_call 43; refine (HC.out _ HR.out).mono ?_; rintro e w' ⟨rfl, rfl⟩)
          go_roundg (n - (i + 1))
          case measure => clear hw9; omega
          case rel => exact ⟨i + 1, by go_num, by clear hw9; omega, by clear hw9; omega, HO2, HR, HB⟩
      · have hltz : ¬ (i : Int) + 1 ≤ (n : Int) := by omega
        obtain rfl : n = i := by omega
        go_wp2
        go_ret2
        exact ⟨_, rfl, by rw [← HRES.out]; exact HO.out, HB.out⟩

/-! ### spec_GoodFloors: function 11 -/
def spec_GoodFloors.f (k : Nat) (a0 : Int) (a1 : Int) : Option (List Int × Bool) := (spec_flBoth.f a0 a1).bind fun t188 => (if t188 = true then ((spec_flGood.f k a0 a1).bind fun t189 => (some (t189, true))) else (some (([] : List Int), false)))
theorem spec_GoodFloors.mono : ∀ a0 a1 k, LeO (spec_GoodFloors.f k a0 a1) (spec_GoodFloors.f (k + 1) a0 a1) := by
  intro a0 a1 k
  unfold spec_GoodFloors.f
  repeat' first
      | (with_reducible exact spec_flGood.mono _ _ _)
      | (with_reducible exact LeO.refl _)
      | (with_reducible exact LeO.none _)
      | (with_reducible refine LeO.ite ?_ ?_)
      | (with_reducible refine LeO.bind ?_ (fun _ => ?_))
      | exact spec_flGood.mono _ _ _
      | exact LeO.none _
      | refine LeO.ite ?_ ?_
      | refine LeO.bind ?_ (fun _ => ?_)
set_option maxHeartbeats 8000000 in
set_option maxRecDepth 100000 in
theorem spec_GoodFloors.calls (k : Nat) (a0 : Int) (a1 : Int) (r1 : List Int) (r2 : Bool) (w : World) (h : spec_GoodFloors.f k a0 a1 = some (r1, r2)) :
    Calls Try.prog 11 #[.int .i64 a0, .int .i64 a1] w fun e w' => ∃ v0_ : Value, e = .returned (.tuple #[v0_, .bool r2]) ∧ Kd.R (Kd.int .i64) 3 w' w.heap.size (fun _ => True) v0_ r1 ∧ Below w.heap.size w w' := by
  have HB := Aside0.mk (Below.refl w.heap.size w)
  have H : ((spec_flBoth.f a0 a1).bind fun t188 => (if t188 = true then ((spec_flGood.f k a0 a1).bind fun t189 => (some (t189, true))) else (some (([] : List Int), false)))) = some (r1, r2) := h
  clear h
  replace H := Option.bind_eq_some_iff.mp H
  obtain ⟨t188, A30, H⟩ := H
  replace H : (if t188 = true then ((spec_flGood.f k a0 a1).bind fun t189 => (some (t189, true))) else (some (([] : List Int), false))) = some (r1, r2) := H
  have A3 := Aside0.mk A30
  clear A30
  by_cases c4 : t188 = true
  · subst c4
    have H1 : ((spec_flGood.f k a0 a1).bind fun t189 => (some (t189, true))) = some (r1, r2) := by rw [if_pos rfl] at H; exact H
    clear H
    have H := H1
    clear H1
    replace H := Option.bind_eq_some_iff.mp H
    obtain ⟨t189, A50, H⟩ := H
    replace H : (some (t189, true)) = some (r1, r2) := H
    have A5 := Aside0.mk A50
    clear A50
    simp only [Option.some.injEq, Prod.mk.injEq] at H
    obtain ⟨rfl, rfl⟩ := H
    go_enter Try.func11, Try.ntmps11
    go_wp2_with (first | ((with_reducible refine gate_callee (f := 39) rfl ?_); refine goesL_ (some 8) rfl rfl Try.func39 (by kernel_rfl) rfl #[.int .i64 a0, .int .i64 a1] rfl (by (try simp only [List.map_toArray, List.map_cons, List.map_nil]); first | done | rfl | (simp only [List.length_drop, List.length_take]; rfl)) ?_; (with_reducible refine (spec_flBoth.calls0 a0 a1 true _ A3.out).mono ?_); rintro e w' ⟨rfl, rfl⟩; refine ⟨_, rfl, ?_⟩) | ((with_reducible refine gate_callee (f := 44) rfl ?_); refine goesL_ (some 12) rfl rfl Try.func44 (by kernel_rfl) rfl #[.int .i64 a0, .int .i64 a1] rfl (by (try simp only [List.map_toArray, List.map_cons, List.map_nil]); first | done | rfl | (simp only [List.length_drop, List.length_take]; rfl)) ?_; (with_reducible refine (spec_flGood.calls k a0 a1 t189 _ A5.out).mono ?_); rintro e w6 ⟨v190, rfl, ho0, hb⟩; refine ⟨_, rfl, ?_⟩; have n0_ := Aside0.mk (Kd.R_lower ho0 (below_size (by repeat (first | (with_reducible first | exact HB.out | apply below_alloc | apply pw_below_drewN | apply below_drew1) | exact HB.out)))); have n1_ := Aside0.mk (below_step (by repeat (first | (with_reducible first | exact HB.out | apply below_alloc | apply pw_below_drewN | apply below_drew1) | exact HB.out)) hb); clear HB; have HO191 := n0_; have HB := n1_; clear n0_ n1_; (try clear hb); (try clear hb2); (try clear hk); (try clear hi); (try clear ho0)))
    go_ret2
    exact ⟨_, by first | rfl | (simp [errW_none, errW_some] <;> rfl) | (simp [*, errW_none, errW_some] <;> rfl), by (with_reducible repeat (first | apply Kd.R_alloc | apply Kd.R_drewN | apply Kd.R_drew)); exact HO191.out, by repeat (first | (with_reducible first | exact HB.out | apply below_alloc | apply pw_below_drewN | apply below_drew1) | exact HB.out)⟩
  · replace c4 := Bool.eq_false_iff.mpr c4
    subst c4
    have H1 : (some (([] : List Int), false)) = some (r1, r2) := by rw [if_neg (show ¬ (false = true) by decide)] at H; exact H
    clear H
    have H := H1
    clear H1
    simp only [Option.some.injEq, Prod.mk.injEq] at H
    obtain ⟨rfl, rfl⟩ := H
    go_enter Try.func11, Try.ntmps11
    go_wp2_with (first | ((with_reducible refine gate_callee (f := 39) rfl ?_); refine goesL_ (some 8) rfl rfl Try.func39 (by kernel_rfl) rfl #[.int .i64 a0, .int .i64 a1] rfl (by (try simp only [List.map_toArray, List.map_cons, List.map_nil]); first | done | rfl | (simp only [List.length_drop, List.length_take]; rfl)) ?_; (with_reducible refine (spec_flBoth.calls0 a0 a1 false _ A3.out).mono ?_); rintro e w' ⟨rfl, rfl⟩; refine ⟨_, rfl, ?_⟩))
    go_ret2
    exact ⟨_, by first | rfl | (simp [errW_none, errW_some] <;> rfl) | (simp [*, errW_none, errW_some] <;> rfl), by first | exact Kd.R_nil _ _ _ _ _ | exact Kd.N_nil _ _ _ _ _ | exact Kd.V_nil _ _ _ _ _ | exact Kd.Q_nil _ _ _ _ _ | exact Kd.S_nil _ _ _ _ _, by repeat (first | (with_reducible first | exact HB.out | apply below_alloc | apply pw_below_drewN | apply below_drew1) | exact HB.out)⟩

/-! behind spec_GoodFloors -/
theorem flGood_go (n : Nat) (R1 R2 : Int) (P : Int → Bool) (hP : ∀ f, P f = (decide (f - 1 ≤ R1) && decide ((n : Int) - f ≤ R2))) (hn : n ≤ 1000) : ∀ (d k i : Nat), i ≤ n → n - i = d → d < k → spec_flGood.l0 k (n : Int) R1 R2 (goodP P i) ((i : Int) + 1) = some (goodP P n) := by
  intro d
  induction d with
  | zero =>
    intro k i hi hd hk
    obtain ⟨k, rfl⟩ : ∃ m, k = m + 1 := ⟨k - 1, by omega⟩
    obtain rfl : i = n := by omega
    rw [spec_flGood.l0, if_neg (by omega)]
  | succ d ih =>
    intro k i hi hd hk
    obtain ⟨k, rfl⟩ : ∃ m, k = m + 1 := ⟨k - 1, by omega⟩
    have e1 : wrap64 ((i : Int) + 1 - 1) = (i : Int) + 1 - 1 := by unfold wrap64; omega
    have e2 : wrap64 ((n : Int) - ((i : Int) + 1)) = (n : Int) - ((i : Int) + 1) := by clear e1; unfold wrap64; omega
    have e3 : wrap64 ((i : Int) + 1 + 1) = ((i + 1 : Nat) : Int) + 1 := by clear e1 e2; unfold wrap64; omega
    have hl := goodP_len P i
    have hs := goodP_succ P i
    rw [hP] at hs
    have hih := ih k (i + 1) (by clear e1 e2 e3; omega) (by clear e1 e2 e3; omega) (by clear e1 e2 e3; omega)
    rw [spec_flGood.l0, if_pos (by clear e1 e2 e3; omega), e1, e2, e3]
    by_cases c1 : (i : Int) + 1 - 1 ≤ R1
    · rw [if_pos c1]
      by_cases c2 : (n : Int) - ((i : Int) + 1) ≤ R2
      · rw [if_pos c2, if_pos (by clear e1 e2 e3; omega)]
        rw [decide_eq_true c1, decide_eq_true c2, if_pos (show (true && true) = true from rfl)] at hs
        rw [← hs]; exact hih
      · rw [if_neg c2]
        rw [decide_eq_true c1, decide_eq_false c2, if_neg (show ¬ ((true && false) = true) by decide)] at hs
        rw [← hs]; exact hih
    · rw [if_neg c1]
      rw [decide_eq_false c1, Bool.false_and, if_neg (by decide)] at hs
      rw [← hs]; exact hih
theorem few_zero (e : Nat) : few e 0 = 0 := by
  have := (few_le_iff e 0 0 (by omega)).2 (by simp [rch])
  omega
theorem flGood_is (e n : Nat) (he1 : 1 ≤ e) (he : e ≤ 10) (hn : n ≤ 1000) (k : Nat) (hk : 20000 ≤ k) : spec_flGood.f k (e : Int) (n : Int) = some (goodL e n) := by
  obtain ⟨e', rfl⟩ : ∃ e', e = e' + 1 := ⟨e - 1, by omega⟩
  have e1 : wrap64 (((e' + 1 : Nat) : Int) - 1) = (e' : Int) := by unfold wrap64; omega
  unfold spec_flGood.f
  rw [spec_flFew_is (e' + 1) n he he1 (by clear e1; omega) k hk, Option.bind_some, e1]
  by_cases h0 : n = 0
  · subst h0
    have hz := few_zero (e' + 1)
    have e2 : wrap64 ((0 : Int) - 1) = -1 := by clear e1; unfold wrap64; omega
    have hrr : ∀ q : Nat, q ≤ 10 → ∃ r, spec_flReach.f k (q : Int) (-1) = some r := fun q hq => by
      have e3 : wrap64 ((q : Int) + 1) = ((q + 1 : Nat) : Int) := by clear e1 e2; unfold wrap64; omega
      obtain ⟨k, rfl⟩ : ∃ m, k = m + 1 := ⟨k - 1, by clear e1 e2 e3; omega⟩
      unfold spec_flReach.f
      rw [e3, if_pos (by clear e1 e2 e3; omega), if_pos (by clear e1 e2 e3; omega), spec_flReach.l0, if_neg (by decide), if_pos (by clear e1 e2 e3; omega), Int.toNat_natCast, List.length_replicate, if_pos (by clear e1 e2 e3; omega)]
      exact ⟨_, rfl⟩
    obtain ⟨r1, q1⟩ := hrr e' (by clear e1 e2; omega)
    obtain ⟨r2, q2⟩ := hrr (e' + 1) he
    obtain ⟨k, rfl⟩ : ∃ m, k = m + 1 := ⟨k - 1, by clear e1 e2; omega⟩
    rw [show ((0 : Nat) : Int) = 0 from rfl] at *
    rw [hz, show ((0 : Nat) : Int) = 0 from rfl, e2, q1, Option.bind_some, q2, Option.bind_some, spec_flGood.l0, if_neg (by decide)]
    rfl
  · obtain ⟨t, ht⟩ : ∃ t, few (e' + 1) n = t + 1 := ⟨few (e' + 1) n - 1, by have := few_pos (e' + 1) (n : Int) (by clear e1; omega); clear e1; omega⟩
    have h1000 := few_le (e' + 1) (n : Int)
    have e2 : wrap64 (((t + 1 : Nat) : Int) - 1) = (t : Int) := by clear e1; unfold wrap64; omega
    rw [ht, e2, spec_flReach_is e' t (by clear e1 e2; omega) (by clear e1 e2; omega) k hk, Option.bind_some, spec_flReach_is (e' + 1) t he (by clear e1 e2; omega) k hk, Option.bind_some]
    have := flGood_go n (rch t e') (rch t (e' + 1)) (goodB (e' + 1) (t + 1) n) (fun f => rfl) hn n k 0 (by clear e1 e2; omega) rfl (by clear e1 e2; omega)
    unfold goodL
    rw [ht]
    exact this
theorem goodP_mem (P : Int → Bool) (n : Nat) (x : Int) : x ∈ goodP P n ↔ 1 ≤ x ∧ x ≤ n ∧ P x = true := by
  unfold goodP
  rw [List.mem_filter, List.mem_map]
  constructor
  · rintro ⟨⟨q, hq, rfl⟩, hp⟩
    rw [List.mem_range] at hq
    exact ⟨by omega, by omega, hp⟩
  · rintro ⟨h1, h2, hp⟩
    exact ⟨⟨(x - 1).toNat, by rw [List.mem_range]; omega, by omega⟩, hp⟩
theorem goodP_rises (P : Int → Bool) (n : Nat) : (goodP P n).Pairwise (· < ·) := by
  unfold goodP
  refine List.Pairwise.filter _ ?_
  rw [List.pairwise_map]
  refine List.Pairwise.imp ?_ List.pairwise_lt_range
  intro a b h
  omega
theorem goodL_best (e n : Nat) (he1 : 1 ≤ e) (he : e ≤ 10) (hn1 : 1 ≤ n) (hn : n ≤ 1000) : 0 < (goodL e n).length ∧ rd (goodL e n) 0 = bestF e n := by
  obtain ⟨r, h1, h2, h3⟩ := spec_flGood_is e n he he1 (by omega) (by omega) 20000 (by omega)
  rw [flGood_is e n he1 he hn 20000 (by omega)] at h1
  rw [Option.some.inj h1]
  exact ⟨h2, h3⟩
/-- A good floor leaves one test less below and above. -/
theorem goodB_iff (e n f : Nat) (he1 : 1 ≤ e) (hf1 : 1 ≤ f) (hfn : f ≤ n) (hn : n ≤ 1000) :
    goodB e (few e n) n f = (decide (1 < e ∨ f = 1) && decide (few e ((n - f : Nat) : Int) < few e n) && decide ((if 1 < e then few (e - 1) ((f - 1 : Nat) : Int) else 0) < few e n)) := by
  have hp := few_pos e (n : Int) (by omega)
  have hl := few_le e (n : Int)
  obtain ⟨t, ht⟩ : ∃ t, few e n = t + 1 := ⟨few e n - 1, by omega⟩
  have h1 := few_le_iff e ((n - f : Nat) : Int) t (by omega)
  unfold goodB
  rw [ht, Nat.add_sub_cancel]
  have q1 : decide ((n : Int) - f ≤ rch t e) = decide (few e ((n - f : Nat) : Int) < t + 1) := by rw [decide_eq_decide]; rw [show (n : Int) - f = ((n - f : Nat) : Int) by omega, ← h1]; omega
  rw [q1]
  by_cases h : 1 < e
  · have h2 := few_le_iff (e - 1) ((f - 1 : Nat) : Int) t (by omega)
    have q2 : decide ((f : Int) - 1 ≤ rch t (e - 1)) = decide (few (e - 1) ((f - 1 : Nat) : Int) < t + 1) := by rw [decide_eq_decide]; rw [show (f : Int) - 1 = ((f - 1 : Nat) : Int) by omega, ← h2]; omega
    rw [q2, if_pos h, decide_eq_true (Or.inl h : 1 < e ∨ f = 1), Bool.true_and, Bool.and_comm]
  · obtain rfl : e = 1 := by omega
    have h0 : rch t (1 - 1) = 0 := by cases t <;> rfl
    have q2 : decide ((f : Int) - 1 ≤ 0) = decide (1 < 1 ∨ f = 1) := by rw [decide_eq_decide]; omega
    rw [h0, if_neg h, decide_eq_true (by omega : 0 < t + 1), Bool.and_true, q2]
theorem few_floors (e n : Nat) (he1 : 1 ≤ e) (hn : n ≤ 1000) : few e n ≤ n := by
  by_cases h : n < 1000
  · exact (few_le_iff e n n h).2 (rch_lin n e he1 (by omega))
  · have := few_le e (n : Int); omega

/-! ### impl_BestFloor: function 12, a contract of our own -/
def impl_BestFloor.f (a0 a1 : Int) : Option (Int × Bool) := some (if isH a0 a1 = true ∧ a1 ≠ 0 then (bestF a0.toNat a1, true) else (0, false))
set_option maxHeartbeats 4000000 in
set_option maxRecDepth 100000 in
theorem impl_BestFloor.calls (a0 a1 : Int) (r1 : Int) (r2 : Bool) (w : World) (h : impl_BestFloor.f a0 a1 = some (r1, r2)) :
    Calls Try.prog 12 #[.int .i64 a0, .int .i64 a1] w fun e w' => e = .returned (.tuple #[.int .i64 r1, .bool r2]) ∧ Below w.heap.size w w' := by
  unfold impl_BestFloor.f at h
  have hq := Option.some.inj h
  have HW := Aside0.mk (isH_calls a0 a1)
  have HB := Aside0.mk (Below.refl w.heap.size w)
  clear h
  cases hh : isH a0 a1 with
  | false =>
    rw [hh] at HW
    rw [hh, if_neg (by intro h; exact absurd h.1 (by decide))] at hq
    obtain ⟨rfl, rfl⟩ := Prod.mk.inj hq
    clear hq hh
    go_enter Try.func12, Try.ntmps12
    go_wp2_with (go_at_call 33; refine (HW.out _).mono ?_; rintro e w' ⟨rfl, rfl⟩)
    go_ret2
    exact ⟨rfl, HB.out⟩
  | true =>
    rw [hh] at HW
    by_cases h0 : a1 = 0
    · rw [hh, if_neg (by intro h; exact h.2 h0)] at hq
      obtain ⟨rfl, rfl⟩ := Prod.mk.inj hq
      subst h0
      clear hq hh
      go_enter Try.func12, Try.ntmps12
      go_wp2_with (go_at_call 33; refine (HW.out _).mono ?_; rintro e w' ⟨rfl, rfl⟩)
      go_ret2
      exact ⟨rfl, HB.out⟩
    · rw [hh, if_pos ⟨rfl, h0⟩] at hq
      obtain ⟨h1, h2⟩ := isH_true hh
      obtain ⟨e0, rfl⟩ : ∃ m : Nat, a0 = m := ⟨a0.toNat, by omega⟩
      rw [Int.toNat_natCast] at hq
      obtain ⟨rfl, rfl⟩ := Prod.mk.inj hq
      have HF : Aside0 (∀ (g : Nat) (W : World), IsReaches W g → Calls Try.prog 38 #[.pointer (some ⟨g, 0, none⟩), .int .i64 e0, .int .i64 a1] W fun e' w' => e' = .returned (.int .i64 (bestF e0 a1)) ∧ ∃ m, w' = W.drewN m) := ⟨fun g W hR => best_calls g e0 a1 W (by omega) (by omega) (by omega) (by omega) hR⟩
      have h0b : (a1 == 0) = false := beq_eq_false_iff_ne.mpr h0
      clear hq hh h1 h2 h0
      generalize bestF e0 a1 = q at HF ⊢
      go_enter Try.func12, Try.ntmps12
      go_wp2_with (first
        | (go_at_call 33; refine (HW.out _).mono ?_; rintro e w' ⟨rfl, rfl⟩)
        | (go_at_call 34; refine (newReaches_calls _).mono ?_; rintro e w' ⟨g, rfl, hR, hg, hb⟩; have HR := Aside0.mk hR; have n_ := Aside0.mk (below_step HB.out hb); clear HB hR hb hg; have HB := n_; clear n_)
        | (go_at_call 38; refine (HF.out _ _ HR.out).mono ?_; rintro e w' ⟨rfl, ⟨m, rfl⟩⟩))
      go_ret2
      exact ⟨rfl, pw_below_drewN HB.out _⟩

end Go.Proofs.Ytfelkkonjbhkjaa.PrintA
