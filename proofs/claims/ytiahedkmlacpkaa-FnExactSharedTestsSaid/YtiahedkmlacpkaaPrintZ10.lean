-- written by this session's own driver (wip/gen.py) with the kit's print and contracts of our own
import Derived.Test.YtiahedkmlacpkaaPrintZ0
import Derived.Test.YtiahedkmlacpkaaPrintZ1
import Derived.Test.YtiahedkmlacpkaaPrintZ8
import Derived.Test.YtiahedkmlacpkaaPrintZ9
namespace Go.Proofs.Ytiahedkmlacpkaa.PrintZ
open Go.RowKit Go.Proofs.YtiahedkmlacpkaaW.PrintWords Go.Proofs.YtiahedkmlacpkaaW.PrintLast Go.Proofs.YtiahedkmlacpkaaW.PrintMore
attribute [local go_sem] max2_int min2_int max_two min_two max_three min_three max_four min_four   -- for this text's walks alone
set_option linter.unusedVariables false
set_option linter.unusedSimpArgs false

/-! ### impl_reaches_sharedTests: function 58, a contract of our own -/
theorem drop_rd (l : List Int) (k : Nat) (h : k < l.length) : l.drop k = rd l (k : Int) :: l.drop (k + 1) := by
  rw [List.drop_eq_getElem_cons h]; simp [rd, List.getD_eq_getElem?_getD, h]
/-- The sum of the fewest tests of houses with shares; false if a house lacks an egg. -/
def shL : List Int → List Int → Int → Int × Bool
  | [], _, s => (s, true)
  | _ :: _, [], s => (s, true)
  | n :: t, q :: u, s => if 0 < n then (if q = 0 then (0, false) else shL t u (s + few q.toNat n)) else shL t u s
set_option maxHeartbeats 4000000 in
set_option maxRecDepth 100000 in
theorem sharedTests_calls (g : Nat) (A0 : Option Addr) (c0 : Nat) (l0 : List Int) (A1 : Option Addr) (c1 : Nat) (l1 : List Int) (w : World) (hR : IsReaches w g) (hr0 : Kd.C (Kd.int .i64) w A0 l0.length l0) (hr1 : Kd.C (Kd.int .i64) w A1 l1.length l1) (hl : l1.length = l0.length) (hb : l0.length ≤ 1000) (hq : ∀ x ∈ l1, 0 ≤ x ∧ x ≤ 10) :
    Calls Try.prog 58 #[.pointer (some ⟨g, 0, none⟩), .slice A0 l0.length c0, .slice A1 l1.length c1] w fun e w' => e = .returned (.tuple #[.int .i64 (shL l0 l1 0).1, .bool (shL l0 l1 0).2]) ∧ w = w' := by
  have HREACH := Aside0.mk hR
  have HR0 := Aside0.mk hr0
  have HR1 := Aside0.mk hr1
  have HQ := Aside0.mk hq
  clear hR hr0 hr1 hq
  generalize hr : shL l0 l1 0 = r
  have HRES := Aside0.mk hr
  clear hr
  rw [hl]
  obtain ⟨n, hn⟩ : ∃ n, l0.length = n := ⟨_, rfl⟩
  rw [hn] at hl hb
  have HN := Aside0.mk hn
  have HN1 := Aside0.mk hl
  rw [hn]
  clear hn hl
  go_enter Try.func58, Try.ntmps58
  go_wp2
  go_loopg [8, 9, 10, 13] n (fun gg v8 _ _ v13 wr => ∃ (kk : Nat) (s : Int), kk ≤ n ∧ n - kk ≤ gg ∧ v13 = .int .i64 kk ∧ v8 = .int .i64 s ∧ 0 ≤ s ∧ s ≤ 1000 * kk ∧ w = wr ∧ Aside0 (shL (l0.drop kk) (l1.drop kk) s = r))
  case atStart => exact ⟨0, 0, Nat.zero_le _, by omega, rfl, rfl, by omega, by omega, rfl, HRES⟩
  case round =>
    clear HRES
    obtain ⟨kk, s, hkk, hg, rfl, rfl, hs0, hs1, rfl, HRES⟩ := hrel
    by_cases hlt : kk < n
    · have hltz : (kk : Int) < (n : Int) := by omega
      obtain ⟨ad, e, hx⟩ := Kd.at_int (HN.out ▸ HR0.out) (kk : Int) (by omega) hltz
      cases e
      obtain ⟨ad1, e, hx1⟩ := Kd.at_int (HN1.out ▸ HR1.out) (kk : Int) (by omega) hltz
      cases e
      rw [Int.toNat_natCast] at hx hx1
      have hres := HRES.out
      rw [drop_rd l0 kk (by rw [HN.out]; exact hlt), drop_rd l1 kk (by rw [HN1.out]; exact hlt), shL] at hres
      have hqk : 0 ≤ rd l1 (kk : Int) ∧ rd l1 (kk : Int) ≤ 10 := by
        have h : kk < l1.length := by rw [HN1.out]; exact hlt
        have e : rd l1 (kk : Int) = l1[kk] := by simp [rd, List.getD_eq_getElem?_getD, h]
        rw [e]; exact HQ.out _ (List.getElem_mem h)
      clear HRES
      generalize rd l0 (kk : Int) = y at hx hres
      generalize rd l1 (kk : Int) = q at hx1 hres hqk
      obtain ⟨q', rfl⟩ : ∃ q' : Nat, q = q' := ⟨q.toNat, by omega⟩
      rw [Int.toNat_natCast] at hres
      by_cases hy : 0 < y
      · have hyd : decide (0 < y) = true := decide_eq_true hy
        rw [if_pos hy] at hres
        by_cases hz : q' = 0
        · subst hz
          rw [if_pos (by omega)] at hres
          have HF := Aside0.mk hres
          have hz0 : (((0 : Nat) : Int) == 0) = true := rfl
          clear hres
          go_wp2
          go_ret2
          exact ⟨by rw [← HF.out]; rfl, rfl⟩
        · have hz0 : (((q' : Nat) : Int) == 0) = false := beq_eq_false_iff_ne.mpr (by omega)
          have hz1 : (q' == 0) = false := beq_eq_false_iff_ne.mpr hz
          rw [if_neg (by omega)] at hres
          have HRES := Aside0.mk hres
          have HC := Aside0.mk (fewest_calls g q' y w (by omega) (by omega) HREACH.out)
          have hfl := few_le q' y
          clear hres hz
          generalize few q' y = f at HRES HC hfl
          go_wp2_with (go_at_call 73; refine (HC.out).mono ?_; rintro e w' ⟨rfl, rfl⟩)
          go_roundg (n - (kk + 1))
          case measure => omega
          case rel => exact ⟨kk + 1, s + f, by omega, by omega, by go_num, rfl, by omega, by omega, rfl, HRES⟩
      · have hyd : decide (0 < y) = false := decide_eq_false hy
        rw [if_neg hy] at hres
        have HRES := Aside0.mk hres
        clear hres
        go_wp2
        go_roundg (n - (kk + 1))
        case measure => omega
        case rel => exact ⟨kk + 1, s, by omega, by omega, by go_num, rfl, by omega, by omega, rfl, HRES⟩
    · have hltz : ¬ (kk : Int) < (n : Int) := by omega
      have hkn : kk = n := by omega
      have HF : Aside0 ((s, true) = r) := ⟨by rw [← HRES.out, List.drop_of_length_le (by rw [HN.out]; omega)]; rfl⟩
      clear hkn
      go_wp2
      go_ret2
      exact ⟨by rw [← HF.out]; rfl, rfl⟩

/-! ### impl_SharedTests: function 27, a contract of our own -/
theorem sharedTests_1 (w : World) : Tells 56 #[] (fun x : Int => .int .i64 x) (outIn 0 10) w := fun W x hb => by
  have HB := Aside0.mk hb
  clear hb
  by_cases h1 : x ≥ 0 <;> by_cases h2 : x ≤ 10
  all_goals
    have hC := impl_within.calls x 0 10 (decide (0 ≤ x) && decide (x ≤ 10)) W (by simp [impl_within.f, h1, h2])
    have HC := Aside0.mk hC
    clear hC
    go_enter Try.func56, Try.ntmps56
    go_wp2_with (go_at_call 57; refine (HC.out).mono ?_; rintro e w' ⟨rfl, ⟨nd, rfl⟩⟩)
    go_ret
    exact ⟨by simp [outIn] <;> omega, pw_below_drewN HB.out _⟩
def goodH (l0 : List Int) : Bool := (decide (1 ≤ l0.length) && decide (l0.length ≤ 3)) && l0.all (fun x => decide (0 ≤ x) && decide (x ≤ 8))
def impl_SharedTests.f (l0 l1 : List Int) : Option (Int × Bool) :=
  if l0.length ≤ 1000000 ∧ l1.length ≤ 1000000 then (if goodH l0 = true then (if l1.length = l0.length then (if l1.any (outIn 0 10) = true then some (0, false) else some (shL l0 l1 0)) else some (0, false)) else some (0, false)) else none
set_option maxHeartbeats 4000000 in
set_option maxRecDepth 100000 in
theorem impl_SharedTests.calls (A0 : Option Addr) (c0 : Nat) (l0 : List Int) (A1 : Option Addr) (c1 : Nat) (l1 : List Int) (r1 : Int) (r2 : Bool) (w : World) (hr0 : Kd.C (Kd.int .i64) w A0 l0.length l0) (hc0 : l0.length ≤ c0) (hr1 : Kd.C (Kd.int .i64) w A1 l1.length l1) (hc1 : l1.length ≤ c1) (h : impl_SharedTests.f l0 l1 = some (r1, r2)) :
    Calls Try.prog 27 #[.slice A0 l0.length c0, .slice A1 l1.length c1] w fun e w' => e = .returned (.tuple #[.int .i64 r1, .bool r2]) ∧ Below w.heap.size w w' := by
  unfold impl_SharedTests.f at h
  by_cases hl : l0.length ≤ 1000000 ∧ l1.length ≤ 1000000
  · rw [if_pos hl] at h
    obtain ⟨hl0, hl1⟩ := hl
    have HW := Aside0.mk (impl_AreHouses.calls A0 c0 l0 (goodH l0) w hr0 hc0 (by unfold impl_AreHouses.f goodH; rw [if_pos (by omega)]))
    have HB := Aside0.mk (Below.refl w.heap.size w)
    by_cases hg : goodH l0 = true
    · rw [if_pos hg] at h
      have hl3 : l0.length ≤ 1000 := by
        unfold goodH at hg
        simp only [Bool.and_eq_true, decide_eq_true_eq] at hg
        omega
      rw [hg] at HW
      clear hg
      by_cases he : l1.length = l0.length
      · rw [if_pos he] at h
        have HI := Aside0.mk (fun W (hb : Below w.heap.size w W) => containsFunc_int 56 #[] _ A1 c1 l1 W (Kd.C_below hr1 hb) (by omega) (enters_ Try.func56 (by kernel_rfl) rfl) (sharedTests_1 W))
        by_cases ha : l1.any (outIn 0 10) = true
        · rw [if_pos ha] at h
          obtain ⟨rfl, rfl⟩ := Prod.mk.inj (Option.some.inj h)
          rw [ha] at HI
          rw [he] at HI ⊢
          clear h ha hr0 hr1 hc0 hc1 hl1 he
          go_enter Try.func27, Try.ntmps27
          go_wp2_with (first
            | (go_at_call 54; refine (HW.out).mono ?_; rintro e w' ⟨rfl, hb⟩; have HB := Aside0.mk hb; clear hb)
            | (go_at_call 55; refine (HI.out _ HB.out).mono ?_; rintro e w' ⟨rfl, hb⟩; have HB := Aside0.mk (below_step HB.out hb); clear hb))
          go_ret2
          exact ⟨rfl, HB.out⟩
        · rw [if_neg ha] at h
          rw [Bool.eq_false_iff.mpr ha] at HI
          have hq : ∀ x ∈ l1, 0 ≤ x ∧ x ≤ 10 := by
            intro x hx
            rw [List.any_eq_true] at ha
            apply Classical.byContradiction
            intro hn
            apply ha
            refine ⟨x, hx, ?_⟩
            unfold outIn
            by_cases h1 : 0 ≤ x
            · rw [decide_eq_false (by omega : ¬ x ≤ 10)]; simp
            · rw [decide_eq_false h1]; simp
          have HS := Aside0.mk (fun (g : Nat) (W W' : World) (hb : Below w.heap.size w W) (hb' : Below W.heap.size W W') (hR : IsReaches W' g) => sharedTests_calls g A0 c0 l0 A1 c1 l1 W' hR (Kd.C_below hr0 (below_step hb hb')) (Kd.C_below hr1 (below_step hb hb')) he hl3 hq)
          have hsh := Option.some.inj h
          rw [hsh] at HS
          rw [he] at HI HS ⊢
          clear h ha hr0 hr1 hc0 hc1 hl1 he hq hsh
          go_enter Try.func27, Try.ntmps27
          go_wp2_with (first
            | (go_at_call 54; refine (HW.out).mono ?_; rintro e w' ⟨rfl, hb⟩; have HB := Aside0.mk hb; clear hb)
            | (go_at_call 55; refine (HI.out _ HB.out).mono ?_; rintro e w' ⟨rfl, hb⟩; have HB := Aside0.mk (below_step HB.out hb); clear hb)
            | (go_at_call 42; refine (newReaches_calls _).mono ?_; rintro e w' ⟨g, rfl, hR, hg, hb⟩; have HS := Aside0.mk (HS.out _ _ _ HB.out hb hR); have HB := Aside0.mk (below_step HB.out hb); clear hR hb hg)
            | (go_at_call 58; refine (HS.out).mono ?_; rintro e w' ⟨rfl, rfl⟩))
          go_ret2
          exact ⟨rfl, HB.out⟩
      · rw [if_neg he] at h
        obtain ⟨rfl, rfl⟩ := Prod.mk.inj (Option.some.inj h)
        clear h hr0 hr1 hc0 hc1
        generalize l1.length = m at he hl1 ⊢
        generalize l0.length = n at he hl0 hl3 HW ⊢
        have he1 : ((m : Int) != (n : Int)) = true := bne_iff_ne.mpr (by omega)
        have he2 : (m != n) = true := bne_iff_ne.mpr he
        go_enter Try.func27, Try.ntmps27
        go_wp2_with (go_at_call 54; refine (HW.out).mono ?_; rintro e w' ⟨rfl, hb⟩; have HB := Aside0.mk hb; clear hb)
        go_ret2
        exact ⟨rfl, HB.out⟩
    · rw [if_neg hg] at h
      rw [Bool.eq_false_iff.mpr hg] at HW
      obtain ⟨rfl, rfl⟩ := Prod.mk.inj (Option.some.inj h)
      clear h hr0 hr1 hc0 hc1 hg
      go_enter Try.func27, Try.ntmps27
      go_wp2_with (go_at_call 54; refine (HW.out).mono ?_; rintro e w' ⟨rfl, hb⟩; have HB := Aside0.mk hb; clear hb)
      go_ret2
      exact ⟨rfl, HB.out⟩
  · rw [if_neg hl] at h
    exact absurd h (by simp)


end Go.Proofs.Ytiahedkmlacpkaa.PrintZ
