-- written by this session's own driver (wip/gen.py) with the kit's print and contracts of our own
import Derived.Test.YteboofglcnceoaaPrintA0
import Derived.Test.YteboofglcnceoaaPrintA1
import Derived.Test.YteboofglcnceoaaPrintA4
import Derived.Test.YteboofglcnceoaaPrintA5
import Derived.Test.YteboofglcnceoaaPrintA12
import Derived.Test.YteboofglcnceoaaPrintA13
import Derived.Test.YteboofglcnceoaaPrintA25
namespace Go.Proofs.Yteboofglcnceoaa.PrintA
open Go.RowKit Go.Proofs.YteboofglcnceoaaLib Go.Proofs.YteboofglcnceoaaW.PrintWords Go.Proofs.YteboofglcnceoaaW.PrintLast Go.Proofs.YteboofglcnceoaaW.PrintMore
attribute [local go_sem] max2_int min2_int max_two min_two max_three min_three max_four min_four   -- for this text's walks alone
set_option linter.unusedVariables false
set_option linter.unusedSimpArgs false

/-! ### spec_FirstKindTest: function 10, a contract of our own -/
/-- The place of the first test of a plan with the fewest. -/
def kIdx (k : KSt) : Nat := (kTests k).findIdx (fun t => decide (kW false k t = kVal false k))
def kFst (k : KSt) : Bool × Int := (kTests k).getD (kIdx k) (false, 0)
def kFirst3 (a0 a1 a2 : Int) : Bool × Int × Bool := if kAsk a0 a1 a2 = true ∧ a2 ≠ 0 then ((kFst (kStart a0 a1 a2)).1, (kFst (kStart a0 a1 a2)).2, true) else (false, 0, false)
theorem kFold_hit (al : Bool) (k : KSt) : ∀ (l : List (Bool × Int)) (o : Int), kFold al k l o = o ∨ ∃ t ∈ l, kFold al k l o = kW al k t
  | [], _ => Or.inl rfl
  | t :: r, o => by
    have h := kFold_hit al k r (min o (kW al k t))
    have e : kFold al k (t :: r) o = kFold al k r (min o (kW al k t)) := rfl
    rw [e]
    rcases h with h | ⟨x, hx, h⟩
    · rw [h]
      by_cases hc : o ≤ kW al k t
      · left; omega
      · right; exact ⟨t, List.mem_cons_self, by omega⟩
    · exact Or.inr ⟨x, List.mem_cons_of_mem _ hx, h⟩
theorem kIdx_lt {a0 a1 a2 : Int} (h : kAsk a0 a1 a2 = true) (h0 : a2 ≠ 0) : kIdx (kStart a0 a1 a2) < (kTests (kStart a0 a1 a2)).length := by
  have hk := kStart_ok h
  have hv := (kStart_val false h).1
  unfold kIdx
  rw [List.findIdx_lt_length]
  have he : ¬ kEnd false (kStart a0 a1 a2) = true := by
    unfold kEnd
    rw [decide_eq_false (by simp only [kStart]; omega), Bool.false_and]
    decide
  have e := kVal_eq false _ hk
  rw [if_neg he] at e
  rcases kFold_hit false (kStart a0 a1 a2) (kTests (kStart a0 a1 a2)) kNever with hh | ⟨t, ht, hh⟩
  · rw [hh] at e
    rw [e] at hv
    exact absurd hv (by decide)
  · exact ⟨t, ht, decide_eq_true (by rw [← hh, ← e])⟩
theorem kIdx_hit (k : KSt) (hj : kIdx k < (kTests k).length) : kW false k (kFst k) = kVal false k := by
  have h := List.findIdx_getElem (p := fun t => decide (kW false k t = kVal false k)) (xs := kTests k) (w := hj)
  have e : kFst k = (kTests k)[kIdx k] := by
    unfold kFst
    rw [List.getD_eq_getElem?_getD, List.getElem?_eq_getElem hj]; rfl
  rw [e]
  exact of_decide_eq_true h
theorem kIdx_miss (k : KSt) (hj : kIdx k < (kTests k).length) (i : Nat) (hi : i < kIdx k) : kW false k ((kTests k).getD i (false, 0)) ≠ kVal false k := by
  have h := List.not_of_lt_findIdx (p := fun t => decide (kW false k t = kVal false k)) (xs := kTests k) hi
  rw [List.getD_eq_getElem?_getD, List.getElem?_eq_getElem (by omega)]
  exact of_decide_eq_false (by simpa using h)
theorem kSW_hit {a0 a1 a2 : Int} (h : kAsk a0 a1 a2 = true) (t : Bool × Int) : kSW false (kStart a0 a1 a2) t = kS false (kStart a0 a1 a2) ↔ kW false (kStart a0 a1 a2) t = kVal false (kStart a0 a1 a2) := by
  obtain ⟨h1, h2⟩ := kStart_val false h
  rw [kSW_eq, h2]
  omega
def spec_FirstKindTest.f (a0 a1 a2 : Int) : Option (Bool × Int × Bool) := some (kFirst3 a0 a1 a2)
set_option maxHeartbeats 8000000 in
set_option maxRecDepth 100000 in
theorem spec_FirstKindTest.calls (a0 a1 a2 : Int) (r1 : Bool) (r2 : Int) (r3 : Bool) (w : World) (h : spec_FirstKindTest.f a0 a1 a2 = some (r1, r2, r3)) :
    Calls Try.prog 10 #[.int .i64 a0, .int .i64 a1, .int .i64 a2] w fun e w' => e = .returned (.tuple #[.bool r1, .int .i64 r2, .bool r3]) ∧ Below w.heap.size w w' := by
  have HB := Aside0.mk (Below.refl w.heap.size w)
  unfold spec_FirstKindTest.f kFirst3 at h
  have hq := Option.some.inj h
  have HG := Aside0.mk (fun (W : World) => spec_kiAsked.calls0 a0 a1 a2 (kAsk a0 a1 a2) W (kiAsked_is a0 a1 a2))
  clear h
  cases hgd : kAsk a0 a1 a2 with
  | true =>
    rw [hgd] at HG
    by_cases hz : a2 = 0
    · rw [if_neg (by intro hc; exact hc.2 hz)] at hq
      obtain ⟨rfl, hq2⟩ := Prod.mk.inj hq
      obtain ⟨rfl, rfl⟩ := Prod.mk.inj hq2
      have hqz : (a2 == 0) = true := by rw [beq_iff_eq]; exact hz
      clear hgd hq hq2 hz
      go_enter Try.func10, Try.ntmps10
      go_wp2_with (go_at_call 12; with_reducible refine (HG.out _).mono ?_; rintro e_ w_ ⟨rfl, rfl⟩)
      go_ret3
      exact ⟨rfl, HB.out⟩
    · rw [if_pos ⟨hgd, hz⟩] at hq
      obtain ⟨hr1, hq2⟩ := Prod.mk.inj hq
      obtain ⟨hr2, hr3⟩ := Prod.mk.inj hq2
      have hok := kStart_ok hgd
      have hlt := kIdx_lt hgd hz
      have HF : Aside0 (∀ (g c : Nat) (W : World), Below w.heap.size w W → Kd.R (Kd.int .i64) 3 W w.heap.size (fun _ => True) (.slice (some ⟨g, 0, none⟩) 38416 c) kTab0 → Calls Try.prog 20 #[.slice (some ⟨g, 0, none⟩) 38416 c, .agg #[.int .i64 0, .int .i64 a2, .int .i64 0, .int .i64 a2, .int .i64 a0, .int .i64 a1]] W fun e' w' => e' = .returned (.tuple #[.bool r1, .int .i64 r2]) ∧ Below w.heap.size w w') := ⟨fun g c W hb hr => by
        have := kiFirst_calls (kStart a0 a1 a2) hok 38416 rfl g c kTab0 w W (KTab.start _) hb (r_int_ok hr (fun k hk => by rw [slice_ownB] at hk; injection hk with hk; exact hk.symm)) (kIdx (kStart a0 a1 a2)) hlt ((kSW_hit hgd _).2 (kIdx_hit _ hlt)) (fun i hi hc => kIdx_miss _ hlt i hi ((kSW_hit hgd _).1 hc))
        rw [← hr1, ← hr2]
        exact this⟩
      have HST := Aside0.mk (fun (W : World) => spec_kiStart.calls a0 a1 a2 _ _ _ _ _ _ W rfl)
      have hqz : (a2 == 0) = false := by rw [beq_eq_false_iff_ne]; exact hz
      clear hgd hq hq2 hz hok hlt hr1 hr2
      subst hr3
      go_enter Try.func10, Try.ntmps10
      go_wp2_with (first
        | (go_at_call 12; with_reducible refine (HG.out _).mono ?_; rintro e_ w_ ⟨rfl, rfl⟩)
        | (go_at_call 14; with_reducible refine (kiTable_calls _).mono ?_; rintro e_ w2 ⟨g, c, rfl, hr, hb⟩; have HR := Aside0.mk (Kd.R_lower hr (below_size HB.out)); have n0_ := Aside0.mk (below_step HB.out hb); clear HB hb hr; have HB := n0_; clear n0_)
        | (go_at_call 15; with_reducible refine (HST.out _).mono ?_; rintro e_ w3 ⟨rfl, hb⟩; have n0_ := Aside0.mk (below_step HB.out hb); have n1_ := Aside0.mk (Kd.R_below HR.out hb); clear HB HR hb; have HB := n0_; have HR := n1_; clear n0_ n1_)
        | (go_at_call 20; with_reducible refine (HF.out _ _ _ HB.out HR.out).mono ?_; rintro e_ w4 ⟨rfl, hb⟩; have n0_ := Aside0.mk hb; clear HB hb; have HB := n0_; clear n0_))
      go_ret3
      exact ⟨rfl, HB.out⟩
  | false =>
    rw [hgd] at HG
    rw [if_neg (by intro hc; rw [hgd] at hc; exact absurd hc.1 (by decide))] at hq
    obtain ⟨rfl, hq2⟩ := Prod.mk.inj hq
    obtain ⟨rfl, rfl⟩ := Prod.mk.inj hq2
    clear hgd hq hq2
    go_enter Try.func10, Try.ntmps10
    go_wp2_with (go_at_call 12; with_reducible refine (HG.out _).mono ?_; rintro e_ w_ ⟨rfl, rfl⟩)
    go_ret3
    exact ⟨rfl, HB.out⟩

end Go.Proofs.Yteboofglcnceoaa.PrintA
