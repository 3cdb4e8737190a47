-- written by this session's own driver (wip/gen.py) with the kit's print and contracts of our own
import Derived.Test.YtaniojfokildiaaDoorPrintA0
import Derived.Test.YtaniojfokildiaaDoorPrintA1
import Derived.Test.YtaniojfokildiaaDoorPrintA4
import Derived.Test.YtaniojfokildiaaDoorPrintA5
namespace Go.Proofs.YtaniojfokildiaaDoor.PrintA
open Go.RowKit Go.Proofs.YtaniojfokildiaaDoorLib Go.Proofs.YtaniojfokildiaaDoorW.PrintWords Go.Proofs.YtaniojfokildiaaDoorW.PrintLast Go.Proofs.YtaniojfokildiaaDoorW.PrintMore
attribute [local go_sem] max2_int min2_int max_two min_two max_three min_three max_four min_four   -- for this text's walks alone
set_option linter.unusedVariables false
set_option linter.unusedSimpArgs false

/-! ### slices_IndexFunc_int_int: function 50, a contract of our own -/
set_option maxHeartbeats 2000000 in
theorem indexFunc_int (g : Nat) (lb : Array Value) (p : Int → Bool) (A0 : Option Addr) (c0 : Nat) (l0 : List Int) (w : World) (hr0 : Kd.C (Kd.int .i64) w A0 l0.length l0)
    (hl : l0.length ≤ 1000000000) (eg : ∀ args w, (callFunc g args).run Tryd.prog w = .ok (.enter g args) w) (hp : Tells g lb (fun x : Int => .int .i64 x) p w) :
    Calls Tryd.prog 50 #[.slice A0 l0.length c0, .func (.func g) #[] lb] w fun e w' => e = .returned (.int .i64 (idxOf p l0)) ∧ Below w.heap.size w w' := by
  have HR := Aside0.mk hr0
  have HP := Aside0.mk hp
  have EG := Aside0.mk eg
  clear hr0 hp eg
  generalize hn : l0.length = n at hl ⊢
  have HN := Aside0.mk hn
  clear hn
  go_enter Tryd.func50, Tryd.ntmps50
  go_wp2
  go_loopg [5, 8] n (fun gg _ s8 wr => ∃ kk : Nat, kk ≤ n ∧ n - kk ≤ gg ∧ s8 = .int .i64 kk ∧ Aside0 (Below w.heap.size w wr) ∧ Aside0 (∀ j, j < kk → p (l0.getD j 0) = false))
  case atStart => exact ⟨0, Nat.zero_le _, by omega, rfl, ⟨Below.refl _ w⟩, ⟨fun j hj => absurd hj (Nat.not_lt_zero _)⟩⟩
  case round =>
    obtain ⟨kk, hkk, hg, rfl, BW, AA⟩ := hrel
    by_cases hlt : kk < n
    · have hltz : (kk : Int) < (n : Int) := by omega
      obtain ⟨ad, e, hx⟩ := Kd.at_int (HN.out ▸ HR.out) (kk : Int) (by omega) hltz
      cases e
      replace hx := (BW.out.cell (World.block_lt_of_cell? w _ hx)).trans hx
      rw [Int.toNat_natCast] at hx
      have hcall := HP.out wr (rd l0 kk) BW.out
      have hy : p (rd l0 kk) = p (l0.getD kk 0) := by simp [rd]
      have HY := Aside0.mk hy
      clear hy
      generalize hz : rd l0 kk = y at hx hcall HY
      clear hz
      cases hq : p y with
      | true =>
        rw [hq] at hcall
        have HQ := Aside0.mk hq
        clear hq
        have HCALL := Aside0.mk hcall
        clear hcall
        go_wp2_with ((with_reducible refine gate_dst (N := 16) rfl ?_); refine goesV_ (some 16) rfl rfl EG.out #[.int .i64 y] rfl rfl (by (try simp only [List.map_toArray, List.map_cons, List.map_nil]); first | done | rfl) ?_; refine HCALL.out.mono ?_; rintro e w' ⟨rfl, hb'⟩; refine ⟨_, rfl, ?_⟩)
        go_ret
        refine ⟨?_, hb'⟩
        rw [idxOf_hit p l0 0 kk (by have := HN.out; omega) (HY.out ▸ HQ.out) AA.out]
        rfl
      | false =>
        rw [hq] at hcall
        have HQ := Aside0.mk hq
        clear hq
        have HCALL := Aside0.mk hcall
        clear hcall
        go_wp2_with ((with_reducible refine gate_dst (N := 16) rfl ?_); refine goesV_ (some 16) rfl rfl EG.out #[.int .i64 y] rfl rfl (by (try simp only [List.map_toArray, List.map_cons, List.map_nil]); first | done | rfl) ?_; refine HCALL.out.mono ?_; rintro e w' ⟨rfl, hb'⟩; refine ⟨_, rfl, ?_⟩)
        go_roundg (n - (kk + 1))
        case measure => omega
        case rel =>
          refine ⟨kk + 1, by omega, by omega, by go_num, ⟨hb'⟩, ⟨fun j hj => ?_⟩⟩
          by_cases e : j = kk
          · subst e; exact HY.out ▸ HQ.out
          · exact AA.out j (by omega)
    · have hltz : ¬ (kk : Int) < (n : Int) := by omega
      have hkn : kk = n := by omega
      subst hkn
      go_wp2
      go_ret
      refine ⟨?_, BW.out⟩
      rw [idxOf_miss p l0 0 (by rw [HN.out]; exact AA.out)]
      rfl

/-! ### slices_ContainsFunc_int_int: function 41, a contract of our own -/
set_option maxHeartbeats 2000000 in
theorem containsFunc_int (g : Nat) (lb : Array Value) (p : Int → Bool) (A0 : Option Addr) (c0 : Nat) (l0 : List Int) (w : World) (hr0 : Kd.C (Kd.int .i64) w A0 l0.length l0)
    (hl : l0.length ≤ 1000000000) (eg : ∀ args w, (callFunc g args).run Tryd.prog w = .ok (.enter g args) w) (hp : Tells g lb (fun x : Int => .int .i64 x) p w) :
    Calls Tryd.prog 41 #[.slice A0 l0.length c0, .func (.func g) #[] lb] w fun e w' => e = .returned (.bool (l0.any p)) ∧ Below w.heap.size w w' := by
  rw [← idxOf_any]
  have HC := indexFunc_int g lb p A0 c0 l0 w hr0 hl eg hp
  generalize idxOf p l0 = q at HC ⊢
  clear hr0 hp eg
  go_enter Tryd.func41, Tryd.ntmps41
  go_wp2_with (go_at_call 50; refine HC.mono ?_; rintro e w' ⟨rfl, hb'⟩)
  go_ret
  exact ⟨rfl, hb'⟩


/-! ### impl_AreHouses: function 26, a contract of our own -/
theorem areHouses_1 (w : World) : Tells 42 #[] (fun x : Int => .int .i64 x) (outIn 0 8) w := fun W x hb => by
  have HB := Aside0.mk hb
  clear hb
  by_cases h1 : x ≥ 0 <;> by_cases h2 : x ≤ 8
  all_goals
    have hC := impl_within.calls x 0 8 (decide (0 ≤ x) && decide (x ≤ 8)) W (by simp [impl_within.f, h1, h2])
    have HC := Aside0.mk hC
    clear hC
    go_enter Tryd.func42, Tryd.ntmps42
    go_wp2_with (go_at_call 40; refine (HC.out).mono ?_; rintro e w' ⟨rfl, ⟨nd, rfl⟩⟩)
    go_ret
    exact ⟨by simp [outIn] <;> omega, pw_below_drewN HB.out _⟩
def impl_AreHouses.f (l0 : List Int) : Option Bool := if l0.length ≤ 1000000000 then some ((decide (1 ≤ l0.length) && decide (l0.length ≤ 3)) && l0.all (fun x => decide (0 ≤ x) && decide (x ≤ 8))) else none
set_option maxHeartbeats 2000000 in
theorem impl_AreHouses.calls (A0 : Option Addr) (c0 : Nat) (l0 : List Int) (r : Bool) (w : World) (hr0 : Kd.C (Kd.int .i64) w A0 l0.length l0) (hc0 : l0.length ≤ c0) (h : impl_AreHouses.f l0 = some r) :
    Calls Tryd.prog 26 #[.slice A0 l0.length c0] w fun e w' => e = .returned (.bool r) ∧ Below w.heap.size w w' := by
  unfold impl_AreHouses.f at h
  by_cases hl : l0.length ≤ 1000000000
  · rw [if_pos hl] at h
    have HH := Aside0.mk (Option.some.inj h)
    clear h
    have HL := Aside0.mk hl
    have HR := Aside0.mk hr0
    clear hr0 hc0
    by_cases h1 : (l0.length : Int) ≥ 1 ∧ (l0.length : Int) ≤ 3
    · have HW := Aside0.mk (impl_within.calls (l0.length : Int) 1 3 true w (by simp [impl_within.f, h1.1, h1.2]))
      have HI := Aside0.mk (fun W (hb : Below w.heap.size w W) => containsFunc_int 42 #[] _ A0 c0 l0 W (Kd.C_below HR.out hb) (by have := HL.out; omega) (enters_ Tryd.func42 (by kernel_rfl) rfl) (areHouses_1 W))
      have HFIN : Aside0 ((!(l0.any (outIn 0 8))) = r) := ⟨by
        rw [← HH.out, decide_eq_true (by omega : 1 ≤ l0.length), decide_eq_true (by omega : l0.length ≤ 3), outIn_all]
        rfl⟩
      clear h1 hl
      go_enter Tryd.func26, Tryd.ntmps26
      go_wp2_with (first | (go_at_call 40; refine (HW.out).mono ?_; rintro e w' ⟨rfl, ⟨nd, rfl⟩⟩) | (go_at_call 41; refine (HI.out _ (pw_below_drewN (Below.refl _ _) _)).mono ?_; rintro e w' ⟨rfl, hb⟩))
      go_ret
      exact ⟨by rw [← HFIN.out]; rfl, below_step (pw_below_drewN (Below.refl _ _) nd) hb⟩
    · have HW := Aside0.mk (impl_within.calls (l0.length : Int) 1 3 false w (by simp [impl_within.f]; omega))
      have HFIN : Aside0 (false = r) := ⟨by
        rw [← HH.out]
        by_cases a : 1 ≤ l0.length
        · rw [decide_eq_false (by omega : ¬ l0.length ≤ 3)]; simp
        · rw [decide_eq_false a]; simp⟩
      clear h1 hl
      go_enter Tryd.func26, Tryd.ntmps26
      go_wp2_with (go_at_call 40; refine (HW.out).mono ?_; rintro e w' ⟨rfl, ⟨nd, rfl⟩⟩)
      go_ret
      exact ⟨by rw [← HFIN.out]; rfl, pw_below_drewN (Below.refl _ _) _⟩
  · rw [if_neg hl] at h
    exact absurd h (by simp)


/-! behind spec_hoGood -/
theorem spec_hoGood_is (l : List Int) (hl : l.length ≤ 1000000) (k : Nat) (hk : l.length < k) : ∃ b, spec_hoGood.f k l = some b ∧ impl_AreHouses.f l = some b ∧ (b = true → 1 ≤ l.length ∧ l.length ≤ 3 ∧ ∀ x ∈ l, 0 ≤ x ∧ x ≤ 8) := by
  unfold spec_hoGood.f impl_AreHouses.f
  rw [spec_l1In_is, if_pos (by omega)]
  simp only [Option.bind_some]
  rw [spec_l1All_is l 0 8 (by omega) k hk]
  simp only [Option.bind_some]
  have e1 : decide ((1 : Int) ≤ (l.length : Int)) = decide (1 ≤ l.length) := by rw [decide_eq_decide]; omega
  have e2 : decide ((l.length : Int) ≤ 3) = decide (l.length ≤ 3) := by rw [decide_eq_decide]; omega
  rw [e1, e2]
  by_cases h : (decide (1 ≤ l.length) && decide (l.length ≤ 3)) = true
  · rw [if_pos h, h]
    refine ⟨_, rfl, by rw [Bool.true_and], fun hb => ?_⟩
    simp only [Bool.and_eq_true, decide_eq_true_eq] at h
    rw [List.all_eq_true] at hb
    refine ⟨h.1, h.2, fun x hx => ?_⟩
    have := hb x hx
    simpa using this
  · rw [if_neg h, Bool.eq_false_iff.mpr h]
    exact ⟨false, rfl, by rw [Bool.false_and], fun hb => by cases hb⟩

end Go.Proofs.YtaniojfokildiaaDoor.PrintA
