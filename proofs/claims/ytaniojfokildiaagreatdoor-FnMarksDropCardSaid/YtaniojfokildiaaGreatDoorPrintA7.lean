-- written by this session's own driver (wip/gen.py) with the kit's print and contracts of our own
import Derived.Test.YtaniojfokildiaaGreatDoorPrintA0
import Derived.Test.YtaniojfokildiaaGreatDoorPrintA3
import Derived.Test.YtaniojfokildiaaGreatDoorPrintA6
namespace Go.Proofs.YtaniojfokildiaaGreatDoor.PrintA
open Go.RowKit Go.Proofs.YtaniojfokildiaaGreatDoorLib Go.Proofs.YtaniojfokildiaaGreatDoorW.PrintWords Go.Proofs.YtaniojfokildiaaGreatDoorW.PrintLast Go.Proofs.YtaniojfokildiaaGreatDoorW.PrintMore
attribute [local go_sem] max2_int min2_int max_two min_two max_three min_three max_four min_four   -- for this text's walks alone
set_option linter.unusedVariables false
set_option linter.unusedSimpArgs false

/-! ### impl_WorstMarked: function 6, a contract of our own -/
/-- How many drops marks need for a break. -/
def mkN (k : Nat) (a : Int) (l : List Int) (b : Int) : Int := match impl_markDrops.f k a l b with
  | some r => (r.length : Int)
  | none => 0
def mkOk (k : Nat) (a : Int) (l : List Int) : Prop := ∀ b : Int, 0 ≤ b → b ≤ a → ∃ r, impl_markDrops.f k a l b = some r ∧ r.length ≤ 1000
def mkOkB (k : Nat) (a : Int) (l : List Int) : Bool := (List.range (a.toNat + 1)).all fun b => match impl_markDrops.f k a l (b : Int) with
  | some r => decide (r.length ≤ 1000)
  | none => false
theorem mkOkB_ok (k : Nat) (a : Int) (l : List Int) (h : mkOkB k a l = true) (ha : 0 ≤ a) : mkOk k a l := by
  intro b h0 hb
  unfold mkOkB at h
  rw [List.all_eq_true] at h
  have h1 := h b.toNat (List.mem_range.2 (by omega))
  rw [show ((b.toNat : Nat) : Int) = b by omega] at h1
  cases hq : impl_markDrops.f k a l b with
  | none => rw [hq] at h1; cases h1
  | some r => rw [hq] at h1; exact ⟨r, rfl, by simpa using h1⟩
theorem mkOkB_of (k : Nat) (a : Int) (l : List Int) (h : mkOk k a l) (ha : 0 ≤ a) : mkOkB k a l = true := by
  unfold mkOkB
  rw [List.all_eq_true]
  intro b hb
  rw [List.mem_range] at hb
  obtain ⟨r, hr, hl⟩ := h b (by omega) (by omega)
  rw [hr]; simpa using hl
set_option maxHeartbeats 4000000 in
set_option maxRecDepth 100000 in
theorem worstMarked_1 (k g2 g3 : Nat) (a : Int) (A1 : Option Addr) (c1 : Nat) (l : List Int) (b : Int) (W : World) (hb0 : 0 ≤ b) (hba : b ≤ a) (hok : mkOk k a l)
    (h2 : W.heap[g2]? = some (.cells #[.int .i64 a] 3 (0, 0))) (h3 : W.heap[g3]? = some (.cells #[.slice A1 l.length c1] 24 (0, 0))) (hc : l.length ≤ c1) (hC : Kd.C (Kd.int .i64) W A1 l.length l) :
    Calls Tryz.prog 43 #[.int .i64 b, .pointer (some ⟨g2, 0, none⟩), .pointer (some ⟨g3, 0, none⟩)] W fun e' w' => e' = .returned (.int .i64 (mkN k a l b)) ∧ Below W.heap.size W w' := by
  obtain ⟨r, hr, hrl⟩ := hok b hb0 hba
  have hm : mkN k a l b = (r.length : Int) := by unfold mkN; rw [hr]
  rw [hm]
  have HP := Aside0.mk (impl_markDrops.calls k a A1 c1 l b r W hC hc hr)
  have hx2 : W.cell? ⟨g2, 0, none⟩ = some (.int .i64 a) := (blk_cell h2 0).trans rfl
  have hx3 : W.cell? ⟨g3, 0, none⟩ = some (.slice A1 l.length c1) := (blk_cell h3 0).trans rfl
  clear hok hr hm h2 h3 hc hC hb0 hba
  go_enter Tryz.func43, Tryz.ntmps43
  go_wp2_with (go_at_call 44; refine (HP.out).mono ?_; rintro e w' ⟨v, rfl, hr, hb⟩; have HB := Aside0.mk hb; obtain ⟨A_, c_, hv_⟩ := Kd.R_slice hr; subst hv_; clear hr hb)
  go_ret
  exact ⟨rfl, HB.out⟩
def impl_WorstMarked.f (k : Nat) (a0 : Int) (l1 : List Int) : Option ((List Int) × Bool) := (impl_AreMarks.f k a0 l1).bind fun t => if t = true then (if mkOkB k a0 l1 = true ∧ 0 ≤ a0 ∧ a0 ≤ 1000 then some (greatL (mkN k a0 l1) a0 (a0 + 1).toNat 0 [] (-1), true) else none) else some ([], false)
set_option maxHeartbeats 4000000 in
set_option maxRecDepth 100000 in
theorem impl_WorstMarked.calls (k : Nat) (a0 : Int) (A1 : Option Addr) (c1 : Nat) (l1 : List Int) (r1 : List Int) (r2 : Bool) (w : World) (hr1 : Kd.C (Kd.int .i64) w A1 l1.length l1) (hc1 : l1.length ≤ c1) (h : impl_WorstMarked.f k a0 l1 = some (r1, r2)) :
    Calls Tryz.prog 6 #[.int .i64 a0, .slice A1 l1.length c1] w fun e w' => ∃ v0_ : Value, e = .returned (.tuple #[v0_, .bool r2]) ∧ Kd.R (Kd.int .i64) 3 w' w.heap.size (fun _ => True) v0_ r1 ∧ Below w.heap.size w w' := by
  unfold impl_WorstMarked.f at h
  obtain ⟨t, ht, h⟩ := Option.bind_eq_some_iff.mp h
  have HW := Aside0.mk (fun W (hb : Below w.heap.size w W) => impl_AreMarks.calls k a0 A1 c1 l1 t W (Kd.C_below hr1 hb) hc1 ht)
  have HB := Aside0.mk (Below.refl w.heap.size w)
  cases t with
  | true =>
    rw [if_pos rfl] at h
    by_cases hok : mkOkB k a0 l1 = true ∧ 0 ≤ a0 ∧ a0 ≤ 1000
    · rw [if_pos hok] at h
      obtain ⟨hq1, rfl⟩ := Prod.mk.inj (Option.some.inj h)
      have HQ := Aside0.mk hq1
      obtain ⟨hokB, ha, hb⟩ := hok
      have hok := mkOkB_ok k a0 l1 hokB ha
      clear hokB
      have HP : Aside0 (∀ (g2 g3 : Nat) (W : World), W.heap[g2]? = some (.cells #[.int .i64 a0] 3 (0, 0)) → W.heap[g3]? = some (.cells #[.slice A1 l1.length c1] 24 (0, 0)) → Below w.heap.size w W →
          Calls Tryz.prog 42 #[.int .i64 a0, .func (.func 43) #[] #[.pointer (some ⟨g2, 0, none⟩), .pointer (some ⟨g3, 0, none⟩)]] W fun e' w' => ∃ v, e' = .returned v ∧ Kd.R (Kd.int .i64) 3 w' W.heap.size (fun _ => True) v r1 ∧ Below W.heap.size W w') :=
        ⟨fun g2 g3 W h2 h3 hB => by
          have := greatest_calls 43 #[] #[.pointer (some ⟨g2, 0, none⟩), .pointer (some ⟨g3, 0, none⟩)] (mkN k a0 l1) a0 W ha hb (enters_ Tryz.func43 (by kernel_rfl) rfl)
            (fun W2 b hW h1 h2' => worstMarked_1 k g2 g3 a0 A1 c1 l1 b W2 h1 h2' hok (blk_below h2 hW) (blk_below h3 hW) hc1 (Kd.C_below hr1 (below_step hB hW)))
          rw [← HQ.out]; simpa using this⟩
      clear h hq1 ha hb hok ht hr1 hc1
      go_enter Tryz.func6, Tryz.ntmps6
      go_wp2_with (first
        | ((with_reducible refine gate_dst (N := 2) rfl ?_); refine box_event ?hg (N := 2) ?hd (cs := #[.int .i64 a0]) (t := 3) ?hr ?_; (case hd => rfl); (case hg => rfl); (case hr => first | (go_simp; done) | (go_simp; rfl)); intro g2 hg w2 hbox hb; have HB := Aside0.mk (below_step HB.out hb); have K2 := Aside0.mk hbox; have hx2 : w2.cell? ⟨g2, 0, none⟩ = some (.int .i64 a0) := (blk_cell K2.out 0).trans rfl; clear hg hbox hb)
        | ((with_reducible refine gate_dst (N := 3) rfl ?_); refine box_event ?hg (N := 3) ?hd (cs := #[.slice A1 l1.length c1]) (t := 24) ?hr ?_; (case hd => rfl); (case hg => rfl); (case hr => first | (go_simp; done) | (go_simp; rfl)); intro g3 hg w3 hbox hb; have HB := Aside0.mk (below_step HB.out hb); have K2 := Aside0.mk (blk_below K2.out hb); have K3 := Aside0.mk hbox; clear hx2; have hx2 : w3.cell? ⟨g2, 0, none⟩ = some (.int .i64 a0) := (blk_cell K2.out 0).trans rfl; have hx3 : w3.cell? ⟨g3, 0, none⟩ = some (.slice A1 l1.length c1) := (blk_cell K3.out 0).trans rfl; clear hg hbox hb)
        | (go_at_call 15; refine (HW.out _ HB.out).mono ?_; rintro e w' ⟨rfl, ⟨nd, rfl⟩⟩; have hbd := pw_below_drewN (Below.refl w3.heap.size w3) nd; have HB := Aside0.mk (below_step HB.out hbd); have K2 := Aside0.mk (blk_below K2.out hbd); have K3 := Aside0.mk (blk_below K3.out hbd); clear hx2 hx3; have hx2 : (w3.drewN nd).cell? ⟨g2, 0, none⟩ = some (.int .i64 a0) := (blk_cell K2.out 0).trans rfl; clear hbd)
        | (go_at_call 42; refine (HP.out _ _ _ K2.out K3.out HB.out).mono ?_; rintro e w' ⟨v, rfl, hr, hb⟩; have HO := Aside0.mk (Kd.R_lower hr (below_size HB.out)); have HB := Aside0.mk (below_step HB.out hb); clear hr hb))
      go_ret2
      exact ⟨_, rfl, HO.out, HB.out⟩
    · rw [if_neg hok] at h; cases h
  | false =>
    rw [if_neg (by decide)] at h
    obtain ⟨rfl, rfl⟩ := Prod.mk.inj (Option.some.inj h)
    clear h ht hr1 hc1
    go_enter Tryz.func6, Tryz.ntmps6
    go_wp2_with (first
      | ((with_reducible refine gate_dst (N := 2) rfl ?_); refine box_event ?hg (N := 2) ?hd (cs := #[.int .i64 a0]) (t := 3) ?hr ?_; (case hd => rfl); (case hg => rfl); (case hr => first | (go_simp; done) | (go_simp; rfl)); intro g2 hg w2 hbox hb; have HB := Aside0.mk (below_step HB.out hb); have K2 := Aside0.mk hbox; have hx2 : w2.cell? ⟨g2, 0, none⟩ = some (.int .i64 a0) := (blk_cell K2.out 0).trans rfl; clear hg hbox hb)
      | ((with_reducible refine gate_dst (N := 3) rfl ?_); refine box_event ?hg (N := 3) ?hd (cs := #[.slice A1 l1.length c1]) (t := 24) ?hr ?_; (case hd => rfl); (case hg => rfl); (case hr => first | (go_simp; done) | (go_simp; rfl)); intro g3 hg w3 hbox hb; have HB := Aside0.mk (below_step HB.out hb); have K2 := Aside0.mk (blk_below K2.out hb); have K3 := Aside0.mk hbox; clear hx2; have hx2 : w3.cell? ⟨g2, 0, none⟩ = some (.int .i64 a0) := (blk_cell K2.out 0).trans rfl; have hx3 : w3.cell? ⟨g3, 0, none⟩ = some (.slice A1 l1.length c1) := (blk_cell K3.out 0).trans rfl; clear hg hbox hb)
      | (go_at_call 15; refine (HW.out _ HB.out).mono ?_; rintro e w' ⟨rfl, ⟨nd, rfl⟩⟩; have HB := Aside0.mk (pw_below_drewN HB.out nd); clear hx2 hx3))
    go_ret2
    exact ⟨_, rfl, Kd.R_nil _ _ _ _ _, HB.out⟩


/-! ### spec_stGood: function 45 -/
def spec_stGood.f (k : Nat) (a0 : Int) (l1 : List Int) : Option (Bool) := (spec_stFloors.f a0).bind fun t147 => (if t147 = true then ((spec_l1Rising.f k l1 1 a0).bind fun t148 => (some t148)) else (some false))
set_option maxHeartbeats 8000000 in
set_option maxRecDepth 100000 in
theorem spec_stGood.calls (k : Nat) (a0 : Int) (A1 : Option Addr) (c1 : Nat) (l1 : List Int) (r : Bool) (w : World) (hr1 : Kd.C (Kd.int .i64) w A1 l1.length l1) (hc1 : l1.length ≤ c1) (h : spec_stGood.f k a0 l1 = some r) :
    Calls Tryz.prog 45 #[.int .i64 a0, .slice A1 l1.length c1] w fun e w' => e = .returned (.bool r) ∧ Drawn0 w w' := by
  have HR1 := Aside0.mk hr1
  have HC1 := Aside0.mk hc1
  clear hr1 hc1
  have H : ((spec_stFloors.f a0).bind fun t147 => (if t147 = true then ((spec_l1Rising.f k l1 1 a0).bind fun t148 => (some t148)) else (some false))) = some r := h
  clear h
  replace H := Option.bind_eq_some_iff.mp H
  obtain ⟨t147, A30, H⟩ := H
  replace H : (if t147 = true then ((spec_l1Rising.f k l1 1 a0).bind fun t148 => (some t148)) else (some false)) = some r := H
  have A3 := Aside0.mk A30
  clear A30
  by_cases c4 : t147 = true
  · subst c4
    have H1 : ((spec_l1Rising.f k l1 1 a0).bind fun t148 => (some t148)) = some r := by rw [if_pos rfl] at H; exact H
    clear H
    have H := H1
    clear H1
    replace H := Option.bind_eq_some_iff.mp H
    obtain ⟨t148, A50, H⟩ := H
    replace H : (some t148) = some r := H
    have A5 := Aside0.mk A50
    clear A50
    obtain rfl := Option.some.inj H
    go_enter Tryz.func45, Tryz.ntmps45
    go_wp2_with (first | ((with_reducible refine gate_callee (f := 76) rfl ?_); refine goesL_ (some 6) rfl rfl Tryz.func76 (by kernel_rfl) rfl #[.int .i64 a0] rfl (by (try simp only [List.map_toArray, List.map_cons, List.map_nil]); first | done | rfl | (simp only [List.length_drop, List.length_take]; rfl)) ?_; (with_reducible refine (spec_stFloors.calls0 a0 true _ A3.out).mono ?_); rintro e w' ⟨rfl, rfl⟩; refine ⟨_, rfl, ?_⟩) | (go_at_call 77; (with_reducible refine (spec_l1Rising.calls k _ _ l1 1 a0 t148 _ ?side1 ?side2 A5.out).mono ?_); (case side1 => repeat (first | exact HR1.out | (with_reducible refine Kd.C_alloc ?_ _) | (with_reducible refine Kd.C_drewN ?_ _) | (with_reducible refine Kd.C_drew ?_))); (case side2 => exact HC1.out); rintro e w' ⟨rfl, ⟨nd, rfl⟩⟩))
    go_ret
    exact ⟨by first | rfl | (simp; done) | (simp [*]; done), by repeat (first | exact Drawn0.refl _ | apply Drawn0.step)⟩
  · replace c4 := Bool.eq_false_iff.mpr c4
    subst c4
    have H1 : (some false) = some r := by rw [if_neg (show ¬ (false = true) by decide)] at H; exact H
    clear H
    have H := H1
    clear H1
    obtain rfl := Option.some.inj H
    go_enter Tryz.func45, Tryz.ntmps45
    go_wp2_with (first | ((with_reducible refine gate_callee (f := 76) rfl ?_); refine goesL_ (some 6) rfl rfl Tryz.func76 (by kernel_rfl) rfl #[.int .i64 a0] rfl (by (try simp only [List.map_toArray, List.map_cons, List.map_nil]); first | done | rfl | (simp only [List.length_drop, List.length_take]; rfl)) ?_; (with_reducible refine (spec_stFloors.calls0 a0 false _ A3.out).mono ?_); rintro e w' ⟨rfl, rfl⟩; refine ⟨_, rfl, ?_⟩))
    go_ret
    exact ⟨by first | rfl | (simp; done) | (simp [*]; done), by repeat (first | exact Drawn0.refl _ | apply Drawn0.step)⟩

/-! behind spec_stGood -/
theorem spec_stGood_is (a : Int) (l : List Int) (hl : l.length ≤ 100000000) (k : Nat) (hk : l.length < k) : spec_stGood.f k a l = some ((decide (0 ≤ a) && decide (a ≤ 100)) && risL 1 a 0 l) := by
  unfold spec_stGood.f spec_stFloors.f
  rw [spec_l1In_is]
  simp only [Option.bind_some]
  by_cases h : (decide (0 ≤ a) && decide (a ≤ 100)) = true
  · rw [if_pos h, h, spec_l1Rising_is l 1 a hl k hk]; rfl
  · rw [if_neg h, Bool.eq_false_iff.mpr h]; rfl

/-! ### spec_stDrops: function 47 -/
mutual
def spec_stDrops.j1 : Nat → Int → List (S65) → Int → Int → Option ((List (S65)))
  | 0, _, _, _, _ => none
  | k + 1, x2, x7, x8, x9 => spec_stDrops.l1 k x2 x7 x9 (wrap64 (x8 + 1))
def spec_stDrops.l1 : Nat → Int → List (S65) → Int → Int → Option ((List (S65)))
  | 0, _, _, _, _ => none
  | k + 1, x2, x7, x9, x12 => if x12 ≤ x9 then (if x7.length < 8796093022208 then ((some (x7 ++ [(⟨x12, decide (x12 > x2)⟩ : S65)] : List (S65))).bind fun y153 => (if x12 > x2 then (some y153) else (spec_stDrops.l1 k x2 y153 x9 (wrap64 (x12 + 1))))) else (none)) else (some x7)
def spec_stDrops.l0 : Nat → Int → List (S65) → Int → Int → List Int → Int → Int → Option ((List (S65)))
  | 0, _, _, _, _, _, _, _ => none
  | k + 1, x2, x7, x8, x9, x14, x15, x16 => if x16 < x15 then (if 0 ≤ x16 then (if x16 < (x14.length : Int) then (if x7.length < 8796093022208 then ((some (x7 ++ [(⟨rd x14 x16, decide ((rd x14 x16) > x2)⟩ : S65)] : List (S65))).bind fun y150 => (if (rd x14 x16) > x2 then (spec_stDrops.j1 k x2 y150 x8 (wrap64 ((rd x14 x16) - 1))) else (spec_stDrops.l0 k x2 y150 (rd x14 x16) x9 x14 x15 (wrap64 (x16 + 1))))) else (none)) else (none)) else (none)) else (spec_stDrops.j1 k x2 x7 x8 x9)
end
def spec_stDrops.f (k : Nat) (a0 : Int) (l1 : List Int) (a2 : Int) : Option ((List (S65))) := spec_stDrops.l0 k a2 ([] : List (S65)) 0 a0 l1 (l1.length : Int) 0
set_option maxHeartbeats 8000000 in
set_option maxRecDepth 100000 in
theorem spec_stDrops.calls (k : Nat) (a0 : Int) (A1 : Option Addr) (c1 : Nat) (l1 : List Int) (a2 : Int) (r : List (S65)) (w : World) (hr1 : Kd.C (Kd.int .i64) w A1 l1.length l1) (hc1 : l1.length ≤ c1) (h : spec_stDrops.f k a0 l1 a2 = some r) :
    Calls Tryz.prog 47 #[.int .i64 a0, .slice A1 l1.length c1, .int .i64 a2] w fun e w' => ∃ v0_ : Value, e = .returned (v0_) ∧ Kd.R k65 65 w' w.heap.size (fun _ => True) v0_ r ∧ Below w.heap.size w w' := by
  have hu65 := Tryz.underlying65
  have HR1 := Aside0.mk hr1
  have HC1 := Aside0.mk hc1
  clear hr1 hc1
  have HB := Aside0.mk (Below.refl w.heap.size w)
  have H : (spec_stDrops.l0 k a2 ([] : List (S65)) 0 a0 l1 (l1.length : Int) 0) = some r := h
  clear h
  have HC4 := Aside0.mk H
  clear H
  go_enter Tryz.func47, Tryz.ntmps47
  go_upto_block 0 with (fail)
  go_cut [7, 8, 9] (fun v7 v8 v9 wc => ∃ (kq : Nat) (x7_3 : List (S65)) (x8_3 : Int) (x9_3 : Int), v8 = .int .i64 x8_3 ∧ v9 = .int .i64 x9_3 ∧ Aside0 (spec_stDrops.j1 kq a2 x7_3 x8_3 x9_3 = some r) ∧ Aside0 (kq ≤ k) ∧ Aside0 (Kd.R k65 65 wc w.heap.size (fun _ => True) v7 x7_3) ∧ Aside0 (Below w.heap.size w wc))
  case first =>
    have H := HC4.out
    clear HC4
    have H' := Aside0.mk H
    clear H
    go_wp2
    go_loopg [7, 8, 9, 16] k (fun kq v7 v8 v9 v16 w' => ∃ (x7_1 : List (S65)) (x8_1 : Int) (x9_1 : Int) (x16_1 : Int), v8 = .int .i64 x8_1 ∧ v9 = .int .i64 x9_1 ∧ v16 = .int .i64 x16_1 ∧ Aside0 (spec_stDrops.l0 kq a2 x7_1 x8_1 x9_1 l1 (l1.length : Int) x16_1 = some r) ∧ Aside0 (kq ≤ k) ∧ Aside0 (Kd.R k65 65 w' w.heap.size (fun _ => True) v7 x7_1) ∧ Aside0 (Below w.heap.size w w'))
    case atStart => exact ⟨(([] : List (S65))), (0), (a0), (0), (by first | rfl | (simp; done) | (simp [*]; done)), (by first | rfl | (simp; done) | (simp [*]; done)), (by first | rfl | (simp; done) | (simp [*]; done)), H', ⟨Nat.le_refl _⟩, ⟨by first | exact Kd.R_nil _ _ _ _ _ | exact Kd.N_nil _ _ _ _ _ | exact Kd.V_nil _ _ _ _ _ | exact Kd.Q_nil _ _ _ _ _ | exact Kd.S_nil _ _ _ _ _⟩, ⟨by repeat (first | (with_reducible first | exact HB.out | apply below_alloc | apply pw_below_drewN | apply below_drew1) | exact HB.out)⟩⟩
    case round =>
      clear H'
      try clear c1
      try clear p2
      try clear c4
      obtain ⟨x7_1, x8_1, x9_1, x16_1, rfl, rfl, rfl, HA, HK1, HO_7, HB⟩ := hrel
      cases gk with
      | zero => exact absurd HA.out (by simp [spec_stDrops.l0])
      | succ k1 =>
        have H := HA.out
        clear HA
        simp only [spec_stDrops.l0] at H
        by_cases c5 : x16_1 < (l1.length : Int)
        · rw [if_pos c5] at H
          have c5b0 : decide (x16_1 < (l1.length : Int)) = true := decide_eq_true c5
          clear c5
          (first | rw [c5b0] | (simp only [i64_w, i32_w]; rw [c5b0]) | skip)
          by_cases c6 : 0 ≤ x16_1
          · rw [if_pos c6] at H
            have c6b0 : decide (0 ≤ x16_1) = true := decide_eq_true c6
            clear c6
            by_cases c7 : x16_1 < (l1.length : Int)
            · rw [if_pos c7] at H
              have c7b0 : decide (x16_1 < (l1.length : Int)) = true := decide_eq_true c7
              clear c7
              by_cases c8 : x7_1.length < 8796093022208
              · rw [if_pos c8] at H
                have LMc8 := Aside0.mk c8
                clear c8
                obtain ⟨y150, hy150⟩ : ∃ y_ : List (S65), y_ = (x7_1 ++ [(⟨rd l1 x16_1, decide ((rd l1 x16_1) > a2)⟩ : S65)]) := ⟨_, rfl⟩
                replace H : (if (rd l1 x16_1) > a2 then (spec_stDrops.j1 k1 a2 y150 x8_1 (wrap64 ((rd l1 x16_1) - 1))) else (spec_stDrops.l0 k1 a2 y150 (rd l1 x16_1) x9_1 l1 (l1.length : Int) (wrap64 (x16_1 + 1)))) = some r := by first | (rw [hy150]; with_reducible exact H) | (have H2_ := (Option.bind_some _ _).symm.trans H; rw [hy150]; with_reducible exact H2_) | (have H2_ := (Option.bind_some _ _).symm.trans H; with_reducible exact H2_) | with_reducible exact H | (rw [hy150]; exact H) | exact H
                have Ny150 := Aside0.mk hy150
                clear hy150
                by_cases c9 : (rd l1 x16_1) > a2
                · rw [if_pos c9] at H
                  have c9b0 : decide (a2 < (rd l1 x16_1)) = true := decide_eq_true c9
                  clear c9
                  have H' := Aside0.mk H
                  clear H
                  have p149 : 0 ≤ (x16_1 : Int) := of_decide_eq_true (by first | (with_reducible assumption) | assumption)
                  have q149 : x16_1 < (l1.length : Int) := of_decide_eq_true (by first | (with_reducible assumption) | assumption)
                  obtain ⟨ad149, e149, hx149_0⟩ := Kd.at_int HR1.out x16_1 p149 q149
                  cases e149
                  replace hx149_0 := (HB.out.cell (World.block_lt_of_cell? w _ hx149_0)).trans hx149_0
                  replace p149 := eq_true p149
                  replace q149 := eq_true q149
                  have hk1_ : decide ((rd l1 x16_1) > a2) = true := by first | exact c9b0 | simpa using c9b0
                  have Ny150_ := Ny150.out
                  (try rw [hk1_] at Ny150_)
                  replace Ny150 := Aside0.mk Ny150_
                  clear Ny150_
                  clear hk1_
                  go_wp2_with (first | ((with_reducible refine gate_builtin (b := .append) (xs := #[.tmp 20, .tmp 26]) rfl ?_); at_builtin; refine Kd.R_append k65 (w0 := w) w.heap.size rfl (.tmp 20) (.tmp 26) 33 65 (.agg #[(.int .i64 0), (.bool false)]) 16 rfl Tryz.underlying33 info65 rfl (by decide) (by omega) u7 x7_1 (⟨rd l1 x16_1, true⟩ : S65) [.int .i64 (rd l1 x16_1), .bool true] (fun _ => True) (fun _ => False) rfl rfl ?aP (fun _ hk => hk.elim) ?aF ?aO ?aB ?aS ?aL ?_; (case aP => exact k65_mkM _ _ _ (⟨rd l1 x16_1, true⟩ : S65)); (case aB => exact (by repeat (first | (with_reducible first | exact HB.out | apply below_alloc | apply pw_below_drewN | apply below_drew1) | exact HB.out))); (case aF => exact (fun _ _ => trivial)); (case aO => exact (by (with_reducible repeat (first | apply Kd.R_alloc | apply Kd.R_drewN | apply Kd.R_drew)); exact HO_7.out)); (case aS => exact (below_size (by repeat (first | (with_reducible first | exact HB.out | apply below_alloc | apply pw_below_drewN | apply below_drew1) | exact HB.out)))); (case aL => have := LMc8.out; omega); intro v151 w10 ho hb hg hat; rw [← Ny150.out] at ho; have n0_ := Aside0.mk (hb); have n1_ := Aside0.mk (ho); clear HB; clear HO_7; have HB := n0_; have HO152 := n1_; clear n0_ n1_; clear ho hb hg hat))
                  go_meet
                  case rel => exact ⟨_, (y150), (x8_1), (wrap64 ((rd l1 x16_1) - 1)), (by first | rfl | (simp; done) | (simp [*]; done)), (by first | rfl | (simp; done) | (simp [*]; done)), H', ⟨by have := HK1.out; first | omega | exact Nat.le_refl _⟩, ⟨by (with_reducible repeat (first | apply Kd.R_alloc | apply Kd.R_drewN | apply Kd.R_drew)); exact HO152.out⟩, ⟨by repeat (first | (with_reducible first | exact HB.out | apply below_alloc | apply pw_below_drewN | apply below_drew1) | exact HB.out)⟩⟩
                · rw [if_neg c9] at H
                  have c9b0 : decide (a2 < (rd l1 x16_1)) = false := decide_eq_false c9
                  clear c9
                  have H' := Aside0.mk H
                  clear H
                  have p149 : 0 ≤ (x16_1 : Int) := of_decide_eq_true (by first | (with_reducible assumption) | assumption)
                  have q149 : x16_1 < (l1.length : Int) := of_decide_eq_true (by first | (with_reducible assumption) | assumption)
                  obtain ⟨ad149, e149, hx149_0⟩ := Kd.at_int HR1.out x16_1 p149 q149
                  cases e149
                  replace hx149_0 := (HB.out.cell (World.block_lt_of_cell? w _ hx149_0)).trans hx149_0
                  replace p149 := eq_true p149
                  replace q149 := eq_true q149
                  have hk2_ : decide ((rd l1 x16_1) > a2) = false := by first | exact c9b0 | simpa using c9b0
                  have Ny150_ := Ny150.out
                  (try rw [hk2_] at Ny150_)
                  replace Ny150 := Aside0.mk Ny150_
                  clear Ny150_
                  clear hk2_
                  go_wp2_with (first | ((with_reducible refine gate_builtin (b := .append) (xs := #[.tmp 20, .tmp 26]) rfl ?_); at_builtin; refine Kd.R_append k65 (w0 := w) w.heap.size rfl (.tmp 20) (.tmp 26) 33 65 (.agg #[(.int .i64 0), (.bool false)]) 16 rfl Tryz.underlying33 info65 rfl (by decide) (by omega) u7 x7_1 (⟨rd l1 x16_1, false⟩ : S65) [.int .i64 (rd l1 x16_1), .bool false] (fun _ => True) (fun _ => False) rfl rfl ?aP (fun _ hk => hk.elim) ?aF ?aO ?aB ?aS ?aL ?_; (case aP => exact k65_mkM _ _ _ (⟨rd l1 x16_1, false⟩ : S65)); (case aB => exact (by repeat (first | (with_reducible first | exact HB.out | apply below_alloc | apply pw_below_drewN | apply below_drew1) | exact HB.out))); (case aF => exact (fun _ _ => trivial)); (case aO => exact (by (with_reducible repeat (first | apply Kd.R_alloc | apply Kd.R_drewN | apply Kd.R_drew)); exact HO_7.out)); (case aS => exact (below_size (by repeat (first | (with_reducible first | exact HB.out | apply below_alloc | apply pw_below_drewN | apply below_drew1) | exact HB.out)))); (case aL => have := LMc8.out; omega); intro v151 w11 ho hb hg hat; rw [← Ny150.out] at ho; have n0_ := Aside0.mk (hb); have n1_ := Aside0.mk (ho); clear HB; clear HO_7; have HB := n0_; have HO152 := n1_; clear n0_ n1_; clear ho hb hg hat))
                  go_roundg k1
                  case measure => have := HK1.out; omega
                  case rel => exact ⟨(y150), (rd l1 x16_1), (x9_1), (wrap64 (x16_1 + 1)), (by first | rfl | (simp; done) | (simp [*]; done)), (by first | rfl | (simp; done) | (simp [*]; done)), (by first | rfl | (simp; done) | (simp [*]; done)), H', ⟨by have := HK1.out; omega⟩, ⟨by (with_reducible repeat (first | apply Kd.R_alloc | apply Kd.R_drewN | apply Kd.R_drew)); exact HO152.out⟩, ⟨by repeat (first | (with_reducible first | exact HB.out | apply below_alloc | apply pw_below_drewN | apply below_drew1) | exact HB.out)⟩⟩
              · rw [if_neg c8] at H
                exact absurd H (by simp)
            · rw [if_neg c7] at H
              exact absurd H (by simp)
          · rw [if_neg c6] at H
            exact absurd H (by simp)
        · rw [if_neg c5] at H
          have c5b0 : decide (x16_1 < (l1.length : Int)) = false := decide_eq_false c5
          clear c5
          (first | rw [c5b0] | (simp only [i64_w, i32_w]; rw [c5b0]) | skip)
          have H' := Aside0.mk H
          clear H
          go_wp2
          go_meet
          case rel => exact ⟨_, (x7_1), (x8_1), (x9_1), (by first | rfl | (simp; done) | (simp [*]; done)), (by first | rfl | (simp; done) | (simp [*]; done)), H', ⟨by have := HK1.out; first | omega | exact Nat.le_refl _⟩, ⟨by (with_reducible repeat (first | apply Kd.R_alloc | apply Kd.R_drewN | apply Kd.R_drew)); exact HO_7.out⟩, ⟨by repeat (first | (with_reducible first | exact HB.out | apply below_alloc | apply pw_below_drewN | apply below_drew1) | exact HB.out)⟩⟩
  case rest =>
    clear HC4
    try clear c1
    try clear p1
    try clear q1
    try clear hx1
    try clear p2
    try clear c4
    try clear c5
    try clear c5b0
    try clear c6
    try clear c6b0
    try clear p6
    try clear c7
    try clear c7b0
    try clear c8
    try clear c9
    try clear c9b0
    try clear hx149_0
    try clear p149
    try clear p2
    try clear q149
    obtain ⟨kq, x7_3, x8_3, x9_3, rfl, rfl, HA, HJ3, HO_7, HB⟩ := hcut
    cases kq with
    | zero => exact absurd HA.out (by simp [spec_stDrops.j1])
    | succ kj3 =>
      have H := HA.out
      clear HA
      simp only [spec_stDrops.j1] at H
      have H' := Aside0.mk H
      clear H
      go_wp2
      go_loopg [7, 12] kj3 (fun kq v7 v12 w' => ∃ (x7_2 : List (S65)) (x12_2 : Int), v12 = .int .i64 x12_2 ∧ Aside0 (spec_stDrops.l1 kq a2 x7_2 x9_3 x12_2 = some r) ∧ Aside0 (kq ≤ kj3) ∧ Aside0 (Kd.R k65 65 w' w.heap.size (fun _ => True) v7 x7_2) ∧ Aside0 (Below w.heap.size w w'))
      case atStart => exact ⟨(x7_3), (wrap64 (x8_3 + 1)), (by first | rfl | (simp; done) | (simp [*]; done)), H', ⟨Nat.le_refl _⟩, ⟨by (with_reducible repeat (first | apply Kd.R_alloc | apply Kd.R_drewN | apply Kd.R_drew)); exact HO_7.out⟩, ⟨by repeat (first | (with_reducible first | exact HB.out | apply below_alloc | apply pw_below_drewN | apply below_drew1) | exact HB.out)⟩⟩
      case round =>
        clear H'
        try clear c1
        try clear p1
        try clear q1
        try clear hx1
        try clear p2
        try clear c4
        try clear c5
        try clear c5b0
        try clear c6
        try clear c6b0
        try clear p6
        try clear c7
        try clear c7b0
        try clear c8
        try clear c9
        try clear c9b0
        try clear hx149_0
        try clear p1
        try clear p149
        try clear p2
        try clear p6
        try clear q1
        try clear q149
        obtain ⟨x7_2, x12_2, rfl, HA, HK2, HO_7, HB⟩ := hrel
        cases gk with
        | zero => exact absurd HA.out (by simp [spec_stDrops.l1])
        | succ k2 =>
          have H := HA.out
          clear HA
          simp only [spec_stDrops.l1] at H
          by_cases c12 : x12_2 ≤ x9_3
          · rw [if_pos c12] at H
            have c12b0 : decide (x12_2 ≤ x9_3) = true := decide_eq_true c12
            clear c12
            by_cases c13 : x7_2.length < 8796093022208
            · rw [if_pos c13] at H
              have LMc13 := Aside0.mk c13
              clear c13
              obtain ⟨y153, hy153⟩ : ∃ y_ : List (S65), y_ = (x7_2 ++ [(⟨x12_2, decide (x12_2 > a2)⟩ : S65)]) := ⟨_, rfl⟩
              replace H : (if x12_2 > a2 then (some y153) else (spec_stDrops.l1 k2 a2 y153 x9_3 (wrap64 (x12_2 + 1)))) = some r := by first | (rw [hy153]; with_reducible exact H) | (have H2_ := (Option.bind_some _ _).symm.trans H; rw [hy153]; with_reducible exact H2_) | (have H2_ := (Option.bind_some _ _).symm.trans H; with_reducible exact H2_) | with_reducible exact H | (rw [hy153]; exact H) | exact H
              have Ny153 := Aside0.mk hy153
              clear hy153
              by_cases c14 : x12_2 > a2
              · rw [if_pos c14] at H
                have c14b0 : decide (a2 < x12_2) = true := decide_eq_true c14
                clear c14
                obtain rfl := Option.some.inj H
                have hk3_ : decide (x12_2 > a2) = true := by first | exact c14b0 | simpa using c14b0
                have Ny153_ := Ny153.out
                (try rw [hk3_] at Ny153_)
                replace Ny153 := Aside0.mk Ny153_
                clear Ny153_
                clear hk3_
                go_wp2_with (first | ((with_reducible refine gate_builtin (b := .append) (xs := #[.tmp 42, .tmp 48]) rfl ?_); at_builtin; refine Kd.R_append k65 (w0 := w) w.heap.size rfl (.tmp 42) (.tmp 48) 33 65 (.agg #[(.int .i64 0), (.bool false)]) 16 rfl Tryz.underlying33 info65 rfl (by decide) (by omega) u7 x7_2 (⟨x12_2, true⟩ : S65) [.int .i64 x12_2, .bool true] (fun _ => True) (fun _ => False) rfl rfl ?aP (fun _ hk => hk.elim) ?aF ?aO ?aB ?aS ?aL ?_; (case aP => exact k65_mkM _ _ _ (⟨x12_2, true⟩ : S65)); (case aB => exact (by repeat (first | (with_reducible first | exact HB.out | apply below_alloc | apply pw_below_drewN | apply below_drew1) | exact HB.out))); (case aF => exact (fun _ _ => trivial)); (case aO => exact (by (with_reducible repeat (first | apply Kd.R_alloc | apply Kd.R_drewN | apply Kd.R_drew)); exact HO_7.out)); (case aS => exact (below_size (by repeat (first | (with_reducible first | exact HB.out | apply below_alloc | apply pw_below_drewN | apply below_drew1) | exact HB.out)))); (case aL => have := LMc13.out; omega); intro v154 w15 ho hb hg hat; rw [← Ny153.out] at ho; have n0_ := Aside0.mk (hb); have n1_ := Aside0.mk (ho); clear HB; clear HO_7; have HB := n0_; have HO155 := n1_; clear n0_ n1_; clear ho hb hg hat))
                go_ret
                exact ⟨_, by first | rfl | (simp [errW_none, errW_some] <;> rfl) | (simp [*, errW_none, errW_some] <;> rfl), by (with_reducible repeat (first | apply Kd.R_alloc | apply Kd.R_drewN | apply Kd.R_drew)); exact HO155.out, by repeat (first | (with_reducible first | exact HB.out | apply below_alloc | apply pw_below_drewN | apply below_drew1) | exact HB.out)⟩
              · rw [if_neg c14] at H
                have c14b0 : decide (a2 < x12_2) = false := decide_eq_false c14
                clear c14
                have H' := Aside0.mk H
                clear H
                have hk4_ : decide (x12_2 > a2) = false := by first | exact c14b0 | simpa using c14b0
                have Ny153_ := Ny153.out
                (try rw [hk4_] at Ny153_)
                replace Ny153 := Aside0.mk Ny153_
                clear Ny153_
                clear hk4_
                go_wp2_with (first | ((with_reducible refine gate_builtin (b := .append) (xs := #[.tmp 42, .tmp 48]) rfl ?_); at_builtin; refine Kd.R_append k65 (w0 := w) w.heap.size rfl (.tmp 42) (.tmp 48) 33 65 (.agg #[(.int .i64 0), (.bool false)]) 16 rfl Tryz.underlying33 info65 rfl (by decide) (by omega) u7 x7_2 (⟨x12_2, false⟩ : S65) [.int .i64 x12_2, .bool false] (fun _ => True) (fun _ => False) rfl rfl ?aP (fun _ hk => hk.elim) ?aF ?aO ?aB ?aS ?aL ?_; (case aP => exact k65_mkM _ _ _ (⟨x12_2, false⟩ : S65)); (case aB => exact (by repeat (first | (with_reducible first | exact HB.out | apply below_alloc | apply pw_below_drewN | apply below_drew1) | exact HB.out))); (case aF => exact (fun _ _ => trivial)); (case aO => exact (by (with_reducible repeat (first | apply Kd.R_alloc | apply Kd.R_drewN | apply Kd.R_drew)); exact HO_7.out)); (case aS => exact (below_size (by repeat (first | (with_reducible first | exact HB.out | apply below_alloc | apply pw_below_drewN | apply below_drew1) | exact HB.out)))); (case aL => have := LMc13.out; omega); intro v154 w16 ho hb hg hat; rw [← Ny153.out] at ho; have n0_ := Aside0.mk (hb); have n1_ := Aside0.mk (ho); clear HB; clear HO_7; have HB := n0_; have HO155 := n1_; clear n0_ n1_; clear ho hb hg hat))
                go_roundg k2
                case measure => have := HJ3.out; have := HK2.out; omega
                case rel => exact ⟨(y153), (wrap64 (x12_2 + 1)), (by first | rfl | (simp; done) | (simp [*]; done)), H', ⟨by have := HJ3.out; have := HK2.out; omega⟩, ⟨by (with_reducible repeat (first | apply Kd.R_alloc | apply Kd.R_drewN | apply Kd.R_drew)); exact HO155.out⟩, ⟨by repeat (first | (with_reducible first | exact HB.out | apply below_alloc | apply pw_below_drewN | apply below_drew1) | exact HB.out)⟩⟩
            · rw [if_neg c13] at H
              exact absurd H (by simp)
          · rw [if_neg c12] at H
            have c12b0 : decide (x12_2 ≤ x9_3) = false := decide_eq_false c12
            clear c12
            obtain rfl := Option.some.inj H
            go_wp2
            go_ret
            exact ⟨_, by first | rfl | (simp [errW_none, errW_some] <;> rfl) | (simp [*, errW_none, errW_some] <;> rfl), by (with_reducible repeat (first | apply Kd.R_alloc | apply Kd.R_drewN | apply Kd.R_drew)); exact HO_7.out, by repeat (first | (with_reducible first | exact HB.out | apply below_alloc | apply pw_below_drewN | apply below_drew1) | exact HB.out)⟩

/-! ### spec_l1Most: function 63 -/
def spec_l1Most.f (a0 : Int) (a1 : Int) : Option (Int) := if a0 > a1 then (some a0) else (some a1)
set_option maxHeartbeats 8000000 in
set_option maxRecDepth 100000 in
theorem spec_l1Most.calls0 (a0 : Int) (a1 : Int) (r : Int) (w : World) (h : spec_l1Most.f a0 a1 = some r) :
    Calls Tryz.prog 63 #[.int .i64 a0, .int .i64 a1] w fun e w' => e = .returned (.int .i64 r) ∧ w = w' := by
  have H : (if a0 > a1 then (some a0) else (some a1)) = some r := h
  clear h
  by_cases c3 : a0 > a1
  · rw [if_pos c3] at H
    have c3b0 : decide (a1 < a0) = true := decide_eq_true c3
    clear c3
    obtain rfl := Option.some.inj H
    go_enter Tryz.func63, Tryz.ntmps63
    go_wp2
    go_ret
    exact ⟨by first | rfl | (simp; done) | (simp [*]; done), by first | rfl | simp⟩
  · rw [if_neg c3] at H
    have c3b0 : decide (a1 < a0) = false := decide_eq_false c3
    clear c3
    obtain rfl := Option.some.inj H
    go_enter Tryz.func63, Tryz.ntmps63
    go_wp2
    go_ret
    exact ⟨by first | rfl | (simp; done) | (simp [*]; done), by first | rfl | simp⟩

/-! behind spec_l1Most -/
theorem spec_l1Most_is (a b : Int) : spec_l1Most.f a b = some (max a b) := by
  unfold spec_l1Most.f
  split <;> (congr 1; omega)

/-! ### spec_stWorst: function 46 -/
def spec_stWorst.l0 : Nat → Int → List Int → Int → Int → Option (Int)
  | 0, _, _, _, _ => none
  | k + 1, x0, x1, x5, x6 => if x6 ≤ x0 then ((spec_stDrops.f k x0 x1 x6).bind fun t156 => ((spec_l1Most.f x5 (t156.length : Int)).bind fun t159 => (spec_stWorst.l0 k x0 x1 t159 (wrap64 (x6 + 1))))) else (some x5)
def spec_stWorst.f (k : Nat) (a0 : Int) (l1 : List Int) : Option (Int) := spec_stWorst.l0 k a0 l1 0 0
set_option maxHeartbeats 8000000 in
set_option maxRecDepth 100000 in
theorem spec_stWorst.calls (k : Nat) (a0 : Int) (A1 : Option Addr) (c1 : Nat) (l1 : List Int) (r : Int) (w : World) (hr1 : Kd.C (Kd.int .i64) w A1 l1.length l1) (hc1 : l1.length ≤ c1) (h : spec_stWorst.f k a0 l1 = some r) :
    Calls Tryz.prog 46 #[.int .i64 a0, .slice A1 l1.length c1] w fun e w' => e = .returned (.int .i64 r) ∧ Below w.heap.size w w' := by
  have HR1 := Aside0.mk hr1
  have HC1 := Aside0.mk hc1
  clear hr1 hc1
  have HB := Aside0.mk (Below.refl w.heap.size w)
  have H : (spec_stWorst.l0 k a0 l1 0 0) = some r := h
  clear h
  have H' := Aside0.mk H
  clear H
  go_enter Tryz.func46, Tryz.ntmps46
  go_wp2
  go_loopg [5, 6] k (fun kq v5 v6 w' => ∃ (x5_1 : Int) (x6_1 : Int), v5 = .int .i64 x5_1 ∧ v6 = .int .i64 x6_1 ∧ Aside0 (spec_stWorst.l0 kq a0 l1 x5_1 x6_1 = some r) ∧ Aside0 (kq ≤ k) ∧ Aside0 (Below w.heap.size w w'))
  case atStart => exact ⟨(0), (0), (by first | rfl | (simp; done) | (simp [*]; done)), (by first | rfl | (simp; done) | (simp [*]; done)), H', ⟨Nat.le_refl _⟩, ⟨by repeat (first | (with_reducible first | exact HB.out | apply below_alloc | apply pw_below_drewN | apply below_drew1) | exact HB.out)⟩⟩
  case round =>
    clear H'
    try clear c1
    try clear p2
    obtain ⟨x5_1, x6_1, rfl, rfl, HA, HK1, HB⟩ := hrel
    cases gk with
    | zero => exact absurd HA.out (by simp [spec_stWorst.l0])
    | succ k1 =>
      have H := HA.out
      clear HA
      simp only [spec_stWorst.l0] at H
      by_cases c3 : x6_1 ≤ a0
      · rw [if_pos c3] at H
        have c3b0 : decide (x6_1 ≤ a0) = true := decide_eq_true c3
        clear c3
        replace H := Option.bind_eq_some_iff.mp H
        obtain ⟨t156, A40, H⟩ := H
        replace H : ((spec_l1Most.f x5_1 (t156.length : Int)).bind fun t159 => (spec_stWorst.l0 k1 a0 l1 t159 (wrap64 (x6_1 + 1)))) = some r := H
        have A4 := Aside0.mk A40
        clear A40
        replace H := Option.bind_eq_some_iff.mp H
        obtain ⟨t159, A50, H⟩ := H
        replace H : (spec_stWorst.l0 k1 a0 l1 t159 (wrap64 (x6_1 + 1))) = some r := H
        have A5 := Aside0.mk A50
        clear A50
        have H' := Aside0.mk H
        clear H
        go_wp2_with (first | ((with_reducible refine gate_callee (f := 47) rfl ?_); refine goesL_ (some 16) rfl rfl Tryz.func47 (by kernel_rfl) rfl #[.int .i64 a0, .slice A1 l1.length c1, .int .i64 x6_1] rfl (by (try simp only [List.map_toArray, List.map_cons, List.map_nil]); first | done | rfl | (simp only [List.length_drop, List.length_take]; rfl)) ?_; (with_reducible refine (spec_stDrops.calls k1 a0 _ _ l1 x6_1 t156 _ ?side1 ?side2 A4.out).mono ?_); (case side1 => repeat (first | exact HR1.out | exact (Kd.C_below HR1.out HB.out) | (with_reducible refine Kd.C_alloc ?_ _) | (with_reducible refine Kd.C_drewN ?_ _) | (with_reducible refine Kd.C_drew ?_))); (case side2 => exact HC1.out); rintro e w6 ⟨v157, rfl, ho0, hb⟩; refine ⟨_, rfl, ?_⟩; have n0_ := Aside0.mk (Kd.R_lower ho0 (below_size (by repeat (first | (with_reducible first | exact HB.out | apply below_alloc | apply pw_below_drewN | apply below_drew1) | exact HB.out)))); have n1_ := Aside0.mk (below_step (by repeat (first | (with_reducible first | exact HB.out | apply below_alloc | apply pw_below_drewN | apply below_drew1) | exact HB.out)) hb); clear HB; have HO158 := n0_; have HB := n1_; clear n0_ n1_; (try clear hb); (try clear hb2); (try clear hk); (try clear hi); (try clear ho0); obtain ⟨Ao7, co7, eo7⟩ := Kd.R_slice HO158.out; subst eo7) | ((with_reducible refine gate_callee (f := 63) rfl ?_); refine goesL_ (some 18) rfl rfl Tryz.func63 (by kernel_rfl) rfl #[.int .i64 x5_1, .int .i64 (t156.length : Int)] rfl (by (try simp only [List.map_toArray, List.map_cons, List.map_nil]); first | done | rfl | (simp only [List.length_drop, List.length_take]; rfl)) ?_; (with_reducible refine (spec_l1Most.calls0 x5_1 (t156.length : Int) t159 _ A5.out).mono ?_); rintro e w' ⟨rfl, rfl⟩; refine ⟨_, rfl, ?_⟩))
        go_roundg k1
        case measure => have := HK1.out; omega
        case rel => exact ⟨(t159), (wrap64 (x6_1 + 1)), (by first | rfl | (simp; done) | (simp [*]; done)), (by first | rfl | (simp; done) | (simp [*]; done)), H', ⟨by have := HK1.out; omega⟩, ⟨by repeat (first | (with_reducible first | exact HB.out | apply below_alloc | apply pw_below_drewN | apply below_drew1) | exact HB.out)⟩⟩
      · rw [if_neg c3] at H
        have c3b0 : decide (x6_1 ≤ a0) = false := decide_eq_false c3
        clear c3
        obtain rfl := Option.some.inj H
        go_wp2
        go_ret
        exact ⟨by first | rfl | (simp [errW_none, errW_some] <;> rfl) | (simp [*, errW_none, errW_some] <;> rfl), by repeat (first | (with_reducible first | exact HB.out | apply below_alloc | apply pw_below_drewN | apply below_drew1) | exact HB.out)⟩

/-! ### spec_WorstMarked: function 7 -/
def spec_WorstMarked.l0 : Nat → Int → List Int → Int → List Int → Int → Option (List Int × Bool)
  | 0, _, _, _, _, _ => none
  | k + 1, x0, x1, x6, x7, x8 => if x8 ≤ x0 then ((spec_stDrops.f k x0 x1 x8).bind fun t162 => (if (t162.length : Int) = x6 then (if x7.length < 17592186044416 then (spec_WorstMarked.l0 k x0 x1 x6 (x7 ++ [x8]) (wrap64 (x8 + 1))) else (none)) else (spec_WorstMarked.l0 k x0 x1 x6 x7 (wrap64 (x8 + 1))))) else (some (x7, true))
def spec_WorstMarked.f (k : Nat) (a0 : Int) (l1 : List Int) : Option (List Int × Bool) := (spec_stGood.f k a0 l1).bind fun t160 => (if t160 = true then ((spec_stWorst.f k a0 l1).bind fun t161 => (spec_WorstMarked.l0 k a0 l1 t161 ([] : List Int) 0)) else (some (([] : List Int), false)))
set_option maxHeartbeats 8000000 in
set_option maxRecDepth 100000 in
theorem spec_WorstMarked.calls (k : Nat) (a0 : Int) (A1 : Option Addr) (c1 : Nat) (l1 : List Int) (r1 : List Int) (r2 : Bool) (w : World) (hr1 : Kd.C (Kd.int .i64) w A1 l1.length l1) (hc1 : l1.length ≤ c1) (h : spec_WorstMarked.f k a0 l1 = some (r1, r2)) :
    Calls Tryz.prog 7 #[.int .i64 a0, .slice A1 l1.length c1] w fun e w' => ∃ v0_ : Value, e = .returned (.tuple #[v0_, .bool r2]) ∧ Kd.R (Kd.int .i64) 3 w' w.heap.size (fun _ => True) v0_ r1 ∧ Below w.heap.size w w' := by
  have HR1 := Aside0.mk hr1
  have HC1 := Aside0.mk hc1
  clear hr1 hc1
  have HB := Aside0.mk (Below.refl w.heap.size w)
  have H : ((spec_stGood.f k a0 l1).bind fun t160 => (if t160 = true then ((spec_stWorst.f k a0 l1).bind fun t161 => (spec_WorstMarked.l0 k a0 l1 t161 ([] : List Int) 0)) else (some (([] : List Int), false)))) = some (r1, r2) := h
  clear h
  replace H := Option.bind_eq_some_iff.mp H
  obtain ⟨t160, A30, H⟩ := H
  replace H : (if t160 = true then ((spec_stWorst.f k a0 l1).bind fun t161 => (spec_WorstMarked.l0 k a0 l1 t161 ([] : List Int) 0)) else (some (([] : List Int), false))) = some (r1, r2) := H
  have A3 := Aside0.mk A30
  clear A30
  by_cases c4 : t160 = true
  · subst c4
    have H1 : ((spec_stWorst.f k a0 l1).bind fun t161 => (spec_WorstMarked.l0 k a0 l1 t161 ([] : List Int) 0)) = some (r1, r2) := by rw [if_pos rfl] at H; exact H
    clear H
    have H := H1
    clear H1
    replace H := Option.bind_eq_some_iff.mp H
    obtain ⟨t161, A50, H⟩ := H
    replace H : (spec_WorstMarked.l0 k a0 l1 t161 ([] : List Int) 0) = some (r1, r2) := H
    have A5 := Aside0.mk A50
    clear A50
    have H' := Aside0.mk H
    clear H
    go_enter Tryz.func7, Tryz.ntmps7
    go_wp2_with (first | ((with_reducible refine gate_callee (f := 45) rfl ?_); refine goesL_ (some 11) rfl rfl Tryz.func45 (by kernel_rfl) rfl #[.int .i64 a0, .slice A1 l1.length c1] rfl (by (try simp only [List.map_toArray, List.map_cons, List.map_nil]); first | done | rfl | (simp only [List.length_drop, List.length_take]; rfl)) ?_; (with_reducible refine (spec_stGood.calls k a0 _ _ l1 true _ ?side1 ?side2 A3.out).mono ?_); (case side1 => repeat (first | exact HR1.out | (with_reducible refine Kd.C_alloc ?_ _) | (with_reducible refine Kd.C_drewN ?_ _) | (with_reducible refine Kd.C_drew ?_))); (case side2 => exact HC1.out); rintro e w' ⟨rfl, ⟨nd, rfl⟩⟩; refine ⟨_, rfl, ?_⟩) | ((with_reducible refine gate_callee (f := 46) rfl ?_); refine goesL_ (some 15) rfl rfl Tryz.func46 (by kernel_rfl) rfl #[.int .i64 a0, .slice A1 l1.length c1] rfl (by (try simp only [List.map_toArray, List.map_cons, List.map_nil]); first | done | rfl | (simp only [List.length_drop, List.length_take]; rfl)) ?_; (with_reducible refine (spec_stWorst.calls k a0 _ _ l1 t161 _ ?side1 ?side2 A5.out).mono ?_); (case side1 => repeat (first | exact HR1.out | (with_reducible refine Kd.C_alloc ?_ _) | (with_reducible refine Kd.C_drewN ?_ _) | (with_reducible refine Kd.C_drew ?_))); (case side2 => exact HC1.out); rintro e w6 ⟨rfl, hb⟩; refine ⟨_, rfl, ?_⟩; have n0_ := Aside0.mk (below_step (by repeat (first | (with_reducible first | exact HB.out | apply below_alloc | apply pw_below_drewN | apply below_drew1) | exact HB.out)) hb); clear HB; have HB := n0_; clear n0_; (try clear hb); (try clear hb2); (try clear hk); (try clear hi)))
    go_loopg [7, 8] k (fun kq v7 v8 w' => ∃ (x7_1 : List Int) (x8_1 : Int), v8 = .int .i64 x8_1 ∧ Aside0 (spec_WorstMarked.l0 kq a0 l1 t161 x7_1 x8_1 = some (r1, r2)) ∧ Aside0 (kq ≤ k) ∧ Aside0 (Kd.R (Kd.int .i64) 3 w' w.heap.size (fun _ => True) v7 x7_1) ∧ Aside0 (Below w.heap.size w w'))
    case atStart => exact ⟨(([] : List Int)), (0), (by first | rfl | (simp; done) | (simp [*]; done)), H', ⟨Nat.le_refl _⟩, ⟨by first | exact Kd.R_nil _ _ _ _ _ | exact Kd.N_nil _ _ _ _ _ | exact Kd.V_nil _ _ _ _ _ | exact Kd.Q_nil _ _ _ _ _ | exact Kd.S_nil _ _ _ _ _⟩, ⟨by repeat (first | (with_reducible first | exact HB.out | apply below_alloc | apply pw_below_drewN | apply below_drew1) | exact HB.out)⟩⟩
    case round =>
      clear H'
      try clear c1
      try clear p2
      try clear c4
      obtain ⟨x7_1, x8_1, rfl, HA, HK1, HO_7, HB⟩ := hrel
      cases gk with
      | zero => exact absurd HA.out (by simp [spec_WorstMarked.l0])
      | succ k1 =>
        have H := HA.out
        clear HA
        simp only [spec_WorstMarked.l0] at H
        by_cases c7 : x8_1 ≤ a0
        · rw [if_pos c7] at H
          have c7b0 : decide (x8_1 ≤ a0) = true := decide_eq_true c7
          clear c7
          replace H := Option.bind_eq_some_iff.mp H
          obtain ⟨t162, A80, H⟩ := H
          replace H : (if (t162.length : Int) = t161 then (if x7_1.length < 17592186044416 then (spec_WorstMarked.l0 k1 a0 l1 t161 (x7_1 ++ [x8_1]) (wrap64 (x8_1 + 1))) else (none)) else (spec_WorstMarked.l0 k1 a0 l1 t161 x7_1 (wrap64 (x8_1 + 1)))) = some (r1, r2) := H
          have A8 := Aside0.mk A80
          clear A80
          by_cases c9 : (t162.length : Int) = t161
          · rw [if_pos c9] at H
            have c9b0 : ((t162.length : Int) == t161) = true := beq_iff_eq.mpr c9
            have c9b1 : ((t162.length : Int) != t161) = false := bne_eq_false_iff_eq.mpr c9
            clear c9
            by_cases c10 : x7_1.length < 17592186044416
            · rw [if_pos c10] at H
              have LMc10 := Aside0.mk c10
              clear c10
              obtain ⟨y165, hy165⟩ : ∃ y_ : List Int, y_ = (x7_1 ++ [x8_1]) := ⟨_, rfl⟩
              replace H : (spec_WorstMarked.l0 k1 a0 l1 t161 y165 (wrap64 (x8_1 + 1))) = some (r1, r2) := by first | (rw [hy165]; with_reducible exact H) | (have H2_ := (Option.bind_some _ _).symm.trans H; rw [hy165]; with_reducible exact H2_) | (have H2_ := (Option.bind_some _ _).symm.trans H; with_reducible exact H2_) | with_reducible exact H | (rw [hy165]; exact H) | exact H
              have Ny165 := Aside0.mk hy165
              clear hy165
              have H' := Aside0.mk H
              clear H
              go_wp2_with (first | ((with_reducible refine gate_callee (f := 47) rfl ?_); refine goesL_ (some 24) rfl rfl Tryz.func47 (by kernel_rfl) rfl #[.int .i64 a0, .slice A1 l1.length c1, .int .i64 x8_1] rfl (by (try simp only [List.map_toArray, List.map_cons, List.map_nil]); first | done | rfl | (simp only [List.length_drop, List.length_take]; rfl)) ?_; (with_reducible refine (spec_stDrops.calls k1 a0 _ _ l1 x8_1 t162 _ ?side1 ?side2 A8.out).mono ?_); (case side1 => repeat (first | exact HR1.out | exact (Kd.C_below HR1.out HB.out) | (with_reducible refine Kd.C_alloc ?_ _) | (with_reducible refine Kd.C_drewN ?_ _) | (with_reducible refine Kd.C_drew ?_))); (case side2 => exact HC1.out); rintro e w11 ⟨v163, rfl, ho0, hb⟩; refine ⟨_, rfl, ?_⟩; have n0_ := Aside0.mk (Kd.R_below (by (with_reducible repeat (first | apply Kd.R_alloc | apply Kd.R_drewN | apply Kd.R_drew)); exact HO_7.out) hb); have n1_ := Aside0.mk (Kd.R_lower ho0 (below_size (by repeat (first | (with_reducible first | exact HB.out | apply below_alloc | apply pw_below_drewN | apply below_drew1) | exact HB.out)))); have n2_ := Aside0.mk (below_step (by repeat (first | (with_reducible first | exact HB.out | apply below_alloc | apply pw_below_drewN | apply below_drew1) | exact HB.out)) hb); clear HO_7; clear HB; have HO_7 := n0_; have HO164 := n1_; have HB := n2_; clear n0_ n1_ n2_; (try clear hb); (try clear hb2); (try clear hk); (try clear hi); (try clear ho0); obtain ⟨Ao12, co12, eo12⟩ := Kd.R_slice HO164.out; subst eo12) | ((with_reducible refine gate_builtin (b := .append) (xs := #[.tmp 28, .tmp 30]) rfl ?_); at_builtin; refine Kd.R_append (Kd.int .i64) (w0 := w) w.heap.size rfl (.tmp 28) (.tmp 30) 24 3 (.int .i64 0) 8 rfl Tryz.underlying24 info3 rfl (by decide) (by omega) u7 x7_1 x8_1 [.int .i64 x8_1] (fun _ => True) (fun _ => False) rfl rfl ?aP (fun _ hk => hk.elim) ?aF ?aO ?aB ?aS ?aL ?_; (case aP => exact rfl); (case aB => exact (by repeat (first | (with_reducible first | exact HB.out | apply below_alloc | apply pw_below_drewN | apply below_drew1) | exact HB.out))); (case aF => exact (fun _ _ => trivial)); (case aO => exact (by (with_reducible repeat (first | apply Kd.R_alloc | apply Kd.R_drewN | apply Kd.R_drew)); exact HO_7.out)); (case aS => exact (below_size (by repeat (first | (with_reducible first | exact HB.out | apply below_alloc | apply pw_below_drewN | apply below_drew1) | exact HB.out)))); (case aL => have := LMc10.out; omega); intro v166 w13 ho hb hg hat; rw [← Ny165.out] at ho; have n0_ := Aside0.mk (Kd.R_over' (by (with_reducible repeat (first | apply Kd.R_alloc | apply Kd.R_drewN | apply Kd.R_drew)); exact HO164.out) (Kd.R_typed (by (with_reducible repeat (first | apply Kd.R_alloc | apply Kd.R_drewN | apply Kd.R_drew)); exact HO_7.out)) (by decide) hg); have n1_ := Aside0.mk (hb); have n2_ := Aside0.mk (ho); clear HO164; clear HB; clear HO_7; have HO164 := n0_; have HB := n1_; have HO167 := n2_; clear n0_ n1_ n2_; clear ho hb hg hat))
              go_roundg k1
              case measure => have := HK1.out; omega
              case rel => exact ⟨(y165), (wrap64 (x8_1 + 1)), (by first | rfl | (simp; done) | (simp [*]; done)), H', ⟨by have := HK1.out; omega⟩, ⟨by (with_reducible repeat (first | apply Kd.R_alloc | apply Kd.R_drewN | apply Kd.R_drew)); exact HO167.out⟩, ⟨by repeat (first | (with_reducible first | exact HB.out | apply below_alloc | apply pw_below_drewN | apply below_drew1) | exact HB.out)⟩⟩
            · rw [if_neg c10] at H
              exact absurd H (by simp)
          · rw [if_neg c9] at H
            have c9b0 : ((t162.length : Int) == t161) = false := beq_eq_false_iff_ne.mpr c9
            have c9b1 : ((t162.length : Int) != t161) = true := bne_iff_ne.mpr c9
            have H' := Aside0.mk H
            clear H
            go_wp2_with (first | ((with_reducible refine gate_callee (f := 47) rfl ?_); refine goesL_ (some 24) rfl rfl Tryz.func47 (by kernel_rfl) rfl #[.int .i64 a0, .slice A1 l1.length c1, .int .i64 x8_1] rfl (by (try simp only [List.map_toArray, List.map_cons, List.map_nil]); first | done | rfl | (simp only [List.length_drop, List.length_take]; rfl)) ?_; (with_reducible refine (spec_stDrops.calls k1 a0 _ _ l1 x8_1 t162 _ ?side1 ?side2 A8.out).mono ?_); (case side1 => repeat (first | exact HR1.out | exact (Kd.C_below HR1.out HB.out) | (with_reducible refine Kd.C_alloc ?_ _) | (with_reducible refine Kd.C_drewN ?_ _) | (with_reducible refine Kd.C_drew ?_))); (case side2 => exact HC1.out); rintro e w14 ⟨v163, rfl, ho0, hb⟩; refine ⟨_, rfl, ?_⟩; have n0_ := Aside0.mk (Kd.R_below (by (with_reducible repeat (first | apply Kd.R_alloc | apply Kd.R_drewN | apply Kd.R_drew)); exact HO_7.out) hb); have n1_ := Aside0.mk (Kd.R_lower ho0 (below_size (by repeat (first | (with_reducible first | exact HB.out | apply below_alloc | apply pw_below_drewN | apply below_drew1) | exact HB.out)))); have n2_ := Aside0.mk (below_step (by repeat (first | (with_reducible first | exact HB.out | apply below_alloc | apply pw_below_drewN | apply below_drew1) | exact HB.out)) hb); clear HO_7; clear HB; have HO_7 := n0_; have HO164 := n1_; have HB := n2_; clear n0_ n1_ n2_; (try clear hb); (try clear hb2); (try clear hk); (try clear hi); (try clear ho0); obtain ⟨Ao15, co15, eo15⟩ := Kd.R_slice HO164.out; subst eo15))
            go_roundg k1
            case measure => have := HK1.out; omega
            case rel => exact ⟨(x7_1), (wrap64 (x8_1 + 1)), (by first | rfl | (simp; done) | (simp [*]; done)), H', ⟨by have := HK1.out; omega⟩, ⟨by (with_reducible repeat (first | apply Kd.R_alloc | apply Kd.R_drewN | apply Kd.R_drew)); exact HO_7.out⟩, ⟨by repeat (first | (with_reducible first | exact HB.out | apply below_alloc | apply pw_below_drewN | apply below_drew1) | exact HB.out)⟩⟩
        · rw [if_neg c7] at H
          have c7b0 : decide (x8_1 ≤ a0) = false := decide_eq_false c7
          clear c7
          simp only [Option.some.injEq, Prod.mk.injEq] at H
          obtain ⟨rfl, rfl⟩ := H
          go_wp2
          go_ret2
          exact ⟨_, by first | rfl | (simp [errW_none, errW_some] <;> rfl) | (simp [*, errW_none, errW_some] <;> rfl), by (with_reducible repeat (first | apply Kd.R_alloc | apply Kd.R_drewN | apply Kd.R_drew)); exact HO_7.out, by repeat (first | (with_reducible first | exact HB.out | apply below_alloc | apply pw_below_drewN | apply below_drew1) | exact HB.out)⟩
  · replace c4 := Bool.eq_false_iff.mpr c4
    subst c4
    have H1 : (some (([] : List Int), false)) = some (r1, r2) := by rw [if_neg (show ¬ (false = true) by decide)] at H; exact H
    clear H
    have H := H1
    clear H1
    simp only [Option.some.injEq, Prod.mk.injEq] at H
    obtain ⟨rfl, rfl⟩ := H
    go_enter Tryz.func7, Tryz.ntmps7
    go_wp2_with (first | ((with_reducible refine gate_callee (f := 45) rfl ?_); refine goesL_ (some 11) rfl rfl Tryz.func45 (by kernel_rfl) rfl #[.int .i64 a0, .slice A1 l1.length c1] rfl (by (try simp only [List.map_toArray, List.map_cons, List.map_nil]); first | done | rfl | (simp only [List.length_drop, List.length_take]; rfl)) ?_; (with_reducible refine (spec_stGood.calls k a0 _ _ l1 false _ ?side1 ?side2 A3.out).mono ?_); (case side1 => repeat (first | exact HR1.out | (with_reducible refine Kd.C_alloc ?_ _) | (with_reducible refine Kd.C_drewN ?_ _) | (with_reducible refine Kd.C_drew ?_))); (case side2 => exact HC1.out); rintro e w' ⟨rfl, ⟨nd, rfl⟩⟩; refine ⟨_, rfl, ?_⟩))
    go_ret2
    exact ⟨_, by first | rfl | (simp [errW_none, errW_some] <;> rfl) | (simp [*, errW_none, errW_some] <;> rfl), by first | exact Kd.R_nil _ _ _ _ _ | exact Kd.N_nil _ _ _ _ _ | exact Kd.V_nil _ _ _ _ _ | exact Kd.Q_nil _ _ _ _ _ | exact Kd.S_nil _ _ _ _ _, by repeat (first | (with_reducible first | exact HB.out | apply below_alloc | apply pw_below_drewN | apply below_drew1) | exact HB.out)⟩

/-! behind impl_markDrops -/
theorem drops_tail (b high : Int) (hb0 : 0 ≤ b) (hb : b ≤ 100) (hh : high ≤ 100) : ∀ (d k : Nat) (acc : List S65) (f : Int), 1 ≤ f → f ≤ b + 1 → (high - f + 1).toNat ≤ d → d + 1 < k → acc.length + d ≤ 1000 →
    ∃ r, spec_stDrops.l1 k b acc high f = some r ∧ impl_markDrops.l1 k b acc high f = some r ∧ r.length ≤ acc.length + d := by
  intro d
  induction d with
  | zero =>
    intro k acc f h1 h2 h3 hk ha
    obtain ⟨k, rfl⟩ : ∃ m, k = m + 1 := ⟨k - 1, by omega⟩
    simp only [spec_stDrops.l1, impl_markDrops.l1]
    rw [if_neg (by omega), if_neg (by omega)]
    exact ⟨acc, rfl, rfl, by omega⟩
  | succ d ih =>
    intro k acc f h1 h2 h3 hk ha
    obtain ⟨k, rfl⟩ : ∃ m, k = m + 1 := ⟨k - 1, by omega⟩
    have e1 : wrap64 (b + 1) = b + 1 := by unfold wrap64; omega
    have e2 : wrap64 (f + 1) = f + 1 := by unfold wrap64; omega
    simp only [spec_stDrops.l1, impl_markDrops.l1, Option.bind_some]
    by_cases hf : f ≤ high
    · have hL : acc.length < 8796093022208 := by omega
      rw [if_pos hf, if_pos hf, if_pos hL, e1, if_pos h2, if_pos hL, e2]
      by_cases c : f > b
      · rw [if_pos c]
        obtain ⟨k, rfl⟩ : ∃ m, k = m + 1 := ⟨k - 1, by omega⟩
        refine ⟨_, rfl, ?_, by simp⟩
        simp only [impl_markDrops.l1]
        by_cases c2 : f + 1 ≤ high
        · rw [if_pos c2, e1, if_neg (by omega)]
        · rw [if_neg c2]
      · rw [if_neg c]
        obtain ⟨r, i1, i2, i3⟩ := ih k (acc ++ [⟨f, decide (f > b)⟩]) (f + 1) (by omega) (by omega) (by omega) (by omega) (by simp; omega)
        exact ⟨r, i1, i2, by simp at i3; omega⟩
    · rw [if_neg hf, if_neg hf]
      exact ⟨acc, rfl, rfl, by omega⟩
theorem drops_marks (l : List Int) (a b : Int) (ha : a ≤ 100) (hb0 : 0 ≤ b) (hb : b ≤ a) (hl : l.length ≤ 100) (hm : ∀ x ∈ l, 1 ≤ x ∧ x ≤ a) : ∀ (d k : Nat) (acc : List S65) (low : Int) (i : Nat), 0 ≤ low → low ≤ b → i ≤ l.length → l.length - i = d → d + 200 < k → acc.length ≤ i →
    ∃ r, spec_stDrops.l0 k b acc low a l (l.length : Int) (i : Int) = some r ∧ impl_markDrops.l0 k b acc low a l (l.length : Int) (i : Int) = some r ∧ r.length ≤ 1000 := by
  intro d
  induction d with
  | zero =>
    intro k acc low i h1 h2 h3 hd hk hacc
    obtain ⟨k, rfl⟩ : ∃ m, k = m + 1 := ⟨k - 1, by omega⟩
    obtain ⟨k, rfl⟩ : ∃ m, k = m + 1 := ⟨k - 1, by omega⟩
    have e : wrap64 (low + 1) = low + 1 := by unfold wrap64; omega
    simp only [spec_stDrops.l0, impl_markDrops.l0]
    rw [if_neg (by omega), if_neg (by omega)]
    simp only [spec_stDrops.j1, impl_markDrops.j1, e]
    obtain ⟨r, i1, i2, i3⟩ := drops_tail b a hb0 (by omega) ha 100 k acc (low + 1) (by omega) (by omega) (by omega) (by omega) (by omega)
    exact ⟨r, i1, i2, by omega⟩
  | succ d ih =>
    intro k acc low i h1 h2 h3 hd hk hacc
    obtain ⟨k, rfl⟩ : ∃ m, k = m + 1 := ⟨k - 1, by omega⟩
    have hlt : i < l.length := by omega
    have e2 : wrap64 ((i : Int) + 1) = ((i + 1 : Nat) : Int) := by unfold wrap64; omega
    have hr := rd_nat l i hlt
    have hx := hm l[i] (List.getElem_mem hlt)
    rw [← hr] at hx
    simp only [spec_stDrops.l0, impl_markDrops.l0, Option.bind_some]
    have hi1 : (i : Int) < (l.length : Int) := by omega
    have hi0 : (0 : Int) ≤ (i : Int) := by omega
    have hL : acc.length < 8796093022208 := by omega
    rw [if_pos hi1, if_pos hi1, if_pos hi0, if_pos hi0, if_pos hi1, if_pos hi1, if_pos hL, e2]
    generalize rd l (i : Int) = x at hx
    by_cases c : x > b
    · obtain ⟨k, rfl⟩ : ∃ m, k = m + 1 := ⟨k - 1, by omega⟩
      have e : wrap64 (low + 1) = low + 1 := by unfold wrap64; omega
      have e3 : wrap64 (x - 1) = x - 1 := by unfold wrap64; omega
      rw [if_pos c, if_pos c, if_pos hL, decide_eq_true c]
      simp only [spec_stDrops.j1, impl_markDrops.j1, e, e3]
      obtain ⟨r, i1, i2, i3⟩ := drops_tail b (x - 1) hb0 (by omega) (by omega) 100 k (acc ++ [⟨x, true⟩]) (low + 1) (by omega) (by omega) (by omega) (by omega) (by simp; omega)
      exact ⟨r, i1, i2, by simp at i3; omega⟩
    · rw [if_neg c, if_neg c, if_pos hL, decide_eq_false c]
      exact ih k (acc ++ [⟨x, false⟩]) x (i + 1) (by omega) (by omega) (by omega) (by omega) (by omega) (by simp; omega)
theorem drops_same (l : List Int) (a b : Int) (ha : a ≤ 100) (hb0 : 0 ≤ b) (hb : b ≤ a) (hg : risL 1 a 0 l = true) (k : Nat) (hk : 400 < k) :
    ∃ r, spec_stDrops.f k a l b = some r ∧ impl_markDrops.f k a l b = some r ∧ r.length ≤ 1000 := by
  have hl := risL_length 1 a l 0 hg (by omega)
  unfold spec_stDrops.f impl_markDrops.f
  exact drops_marks l a b ha hb0 hb (by omega) (risL_mem 1 a l 0 hg) l.length k [] 0 0 (by omega) (by omega) (by omega) (by omega) (by omega) (by simp)


/-! ### impl_marked: function 48 -/
def impl_marked.l0 : Nat → Int → List Int → Int → Int → Int → Int → Option (Int × Int)
  | 0, _, _, _, _, _, _ => none
  | k + 1, x0, x1, x6, x7, x11, x12 => if x12 < x11 then ((impl_markDrops.f k x0 x1 x12).bind fun t181 => (impl_marked.l0 k x0 x1 (mx x6 (t181.length : Int)) (wrap64 (x7 + (t181.length : Int))) x11 (wrap64 (x12 + 1)))) else (some (x6, x7))
def impl_marked.f (k : Nat) (a0 : Int) (l1 : List Int) : Option (Int × Int) := impl_marked.l0 k a0 l1 0 0 (wrap64 (a0 + 1)) 0
set_option maxHeartbeats 8000000 in
set_option maxRecDepth 100000 in
theorem impl_marked.calls (k : Nat) (a0 : Int) (A1 : Option Addr) (c1 : Nat) (l1 : List Int) (r1 : Int) (r2 : Int) (w : World) (hr1 : Kd.C (Kd.int .i64) w A1 l1.length l1) (hc1 : l1.length ≤ c1) (h : impl_marked.f k a0 l1 = some (r1, r2)) :
    Calls Tryz.prog 48 #[.int .i64 a0, .slice A1 l1.length c1] w fun e w' => e = .returned (.tuple #[.int .i64 r1, .int .i64 r2]) ∧ Below w.heap.size w w' := by
  have HR1 := Aside0.mk hr1
  have HC1 := Aside0.mk hc1
  clear hr1 hc1
  have HB := Aside0.mk (Below.refl w.heap.size w)
  have H : (impl_marked.l0 k a0 l1 0 0 (wrap64 (a0 + 1)) 0) = some (r1, r2) := h
  clear h
  have H' := Aside0.mk H
  clear H
  go_enter Tryz.func48, Tryz.ntmps48
  go_wp2
  go_loopg [6, 7, 12] k (fun kq v6 v7 v12 w' => ∃ (x6_1 : Int) (x7_1 : Int) (x12_1 : Int), v6 = .int .i64 x6_1 ∧ v7 = .int .i64 x7_1 ∧ v12 = .int .i64 x12_1 ∧ Aside0 (impl_marked.l0 kq a0 l1 x6_1 x7_1 (wrap64 (a0 + 1)) x12_1 = some (r1, r2)) ∧ Aside0 (kq ≤ k) ∧ Aside0 (Below w.heap.size w w'))
  case atStart => exact ⟨(0), (0), (0), (by first | rfl | (simp; done) | (simp [*]; done)), (by first | rfl | (simp; done) | (simp [*]; done)), (by first | rfl | (simp; done) | (simp [*]; done)), H', ⟨Nat.le_refl _⟩, ⟨by repeat (first | (with_reducible first | exact HB.out | apply below_alloc | apply pw_below_drewN | apply below_drew1) | exact HB.out)⟩⟩
  case round =>
    clear H'
    try clear c1
    try clear p2
    obtain ⟨x6_1, x7_1, x12_1, rfl, rfl, rfl, HA, HK1, HB⟩ := hrel
    cases gk with
    | zero => exact absurd HA.out (by simp [impl_marked.l0])
    | succ k1 =>
      have H := HA.out
      clear HA
      simp only [impl_marked.l0] at H
      by_cases c3 : x12_1 < (wrap64 (a0 + 1))
      · rw [if_pos c3] at H
        have c3b0 : decide (x12_1 < (wrap64 (a0 + 1))) = true := decide_eq_true c3
        clear c3
        replace H := Option.bind_eq_some_iff.mp H
        obtain ⟨t181, A40, H⟩ := H
        replace H : (impl_marked.l0 k1 a0 l1 (mx x6_1 (t181.length : Int)) (wrap64 (x7_1 + (t181.length : Int))) (wrap64 (a0 + 1)) (wrap64 (x12_1 + 1))) = some (r1, r2) := H
        have A4 := Aside0.mk A40
        clear A40
        obtain ⟨ji5, hji5⟩ : ∃ j_ : Int, (mx x6_1 (t181.length : Int)) = j_ := ⟨_, rfl⟩
        replace H : (impl_marked.l0 k1 a0 l1 ji5 (wrap64 (x7_1 + (t181.length : Int))) (wrap64 (a0 + 1)) (wrap64 (x12_1 + 1))) = some (r1, r2) := by first | (rw [hji5] at H; exact H) | (simp only [hji5] at H ⊢; exact H)
        (try rw [hji5] at A4)
        have hji5_ : (if x6_1 < (t181.length : Int) then (t181.length : Int) else x6_1) = ji5 := hji5
        have H' := Aside0.mk H
        clear H
        go_wp2_with (first | ((with_reducible refine gate_callee (f := 44) rfl ?_); refine goesL_ (some 18) rfl rfl Tryz.func44 (by kernel_rfl) rfl #[.int .i64 a0, .slice A1 l1.length c1, .int .i64 x12_1] rfl (by (try simp only [List.map_toArray, List.map_cons, List.map_nil]); first | done | rfl | (simp only [List.length_drop, List.length_take]; rfl)) ?_; (with_reducible refine (impl_markDrops.calls k1 a0 _ _ l1 x12_1 t181 _ ?side1 ?side2 A4.out).mono ?_); (case side1 => repeat (first | exact HR1.out | exact (Kd.C_below HR1.out HB.out) | (with_reducible refine Kd.C_alloc ?_ _) | (with_reducible refine Kd.C_drewN ?_ _) | (with_reducible refine Kd.C_drew ?_))); (case side2 => exact HC1.out); rintro e w6 ⟨v182, rfl, ho0, hb⟩; refine ⟨_, rfl, ?_⟩; have n0_ := Aside0.mk (Kd.R_lower ho0 (below_size (by repeat (first | (with_reducible first | exact HB.out | apply below_alloc | apply pw_below_drewN | apply below_drew1) | exact HB.out)))); have n1_ := Aside0.mk (below_step (by repeat (first | (with_reducible first | exact HB.out | apply below_alloc | apply pw_below_drewN | apply below_drew1) | exact HB.out)) hb); clear HB; have HO183 := n0_; have HB := n1_; clear n0_ n1_; (try clear hb); (try clear hb2); (try clear hk); (try clear hi); (try clear ho0); obtain ⟨Ao7, co7, eo7⟩ := Kd.R_slice HO183.out; subst eo7))
        go_roundg k1
        case measure => have := HK1.out; omega
        case rel => exact ⟨(ji5), (wrap64 (x7_1 + (t181.length : Int))), (wrap64 (x12_1 + 1)), (by first | rfl | (simp; done) | (simp only [← hji5] <;> (first | rfl | simp)) | (simp [*]; done)), (by first | rfl | (simp; done) | (simp [*]; done)), (by first | rfl | (simp; done) | (simp [*]; done)), H', ⟨by have := HK1.out; omega⟩, ⟨by repeat (first | (with_reducible first | exact HB.out | apply below_alloc | apply pw_below_drewN | apply below_drew1) | exact HB.out)⟩⟩
      · rw [if_neg c3] at H
        have c3b0 : decide (x12_1 < (wrap64 (a0 + 1))) = false := decide_eq_false c3
        clear c3
        simp only [Option.some.injEq, Prod.mk.injEq] at H
        obtain ⟨rfl, rfl⟩ := H
        go_wp2
        go_ret2
        exact ⟨by first | rfl | (simp [errW_none, errW_some] <;> rfl) | (simp [*, errW_none, errW_some] <;> rfl), by repeat (first | (with_reducible first | exact HB.out | apply below_alloc | apply pw_below_drewN | apply below_drew1) | exact HB.out)⟩

/-! behind impl_marked -/
-- LIB Marks
/-- How many drops marks need for a break. -/
def dropN (a : Int) (l : List Int) (b : Int) : Int := match impl_markDrops.f 1000 a l b with
  | some r => (r.length : Int)
  | none => 0
theorem LeO_up {α : Type} {g : Nat → Option α} (h : ∀ k, LeO (g k) (g (k + 1))) {k m : Nat} (hk : k ≤ m) : LeO (g k) (g m) := by
  induction hk with
  | refl => exact LeO.refl _
  | step _ ih => exact LeO.trans ih (h _)
theorem dropN_is (a : Int) (l : List Int) (b : Int) (ha : a ≤ 100) (hb0 : 0 ≤ b) (hb : b ≤ a) (hg : risL 1 a 0 l = true) (k : Nat) (hk : 400 < k) :
    ∃ r, spec_stDrops.f k a l b = some r ∧ impl_markDrops.f k a l b = some r ∧ (r.length : Int) = dropN a l b ∧ r.length ≤ 1000 := by
  obtain ⟨r, q1, q2, q3⟩ := drops_same l a b ha hb0 hb hg k hk
  obtain ⟨r', p1, p2, p3⟩ := drops_same l a b ha hb0 hb hg 1000 (by omega)
  refine ⟨r, q1, q2, ?_, q3⟩
  have e1 := LeO_up (g := fun k => impl_markDrops.f k a l b) (fun k => impl_markDrops.mono a l b k) (show k ≤ k + 1000 by omega) r q2
  have e2 := LeO_up (g := fun k => impl_markDrops.f k a l b) (fun k => impl_markDrops.mono a l b k) (show 1000 ≤ k + 1000 by omega) r' p2
  have e3 : r = r' := Option.some.inj (e1.symm.trans e2)
  unfold dropN
  rw [p2, e3]
theorem marked_l0 (a : Nat) (l : List Int) (ha : a ≤ 100) (hg : risL 1 a 0 l = true) : ∀ (d k i : Nat) (s : Int), a + 1 - i = d → i ≤ a + 1 → 400 + d < k →
    ∃ s', impl_marked.l0 k a l (mxF (dropN a l) i) s ((a : Int) + 1) i = some (mxF (dropN a l) (a + 1), s')
  | 0, k, i, s, hd, hi, hk => by
    obtain ⟨k, rfl⟩ : ∃ m, k = m + 1 := ⟨k - 1, by omega⟩
    obtain rfl : i = a + 1 := by omega
    rw [impl_marked.l0, if_neg (by omega)]
    exact ⟨s, rfl⟩
  | d + 1, k, i, s, hd, hi, hk => by
    obtain ⟨k, rfl⟩ : ∃ m, k = m + 1 := ⟨k - 1, by omega⟩
    obtain ⟨r, _, hr, hl, _⟩ := dropN_is a l i (by omega) (by omega) (by omega) hg k (by omega)
    obtain ⟨s', ih⟩ := marked_l0 a l ha hg d k (i + 1) (wrap64 (s + dropN a l i)) (by omega) (by omega) (by omega)
    have e2 : wrap64 ((i : Int) + 1) = ((i + 1 : Nat) : Int) := by unfold wrap64; omega
    have e3 : mx (mxF (dropN a l) i) (dropN a l i) = mxF (dropN a l) (i + 1) := by rw [mxF]; unfold mx; omega
    rw [impl_marked.l0, if_pos (by clear e2; omega), hr, Option.bind_some, hl, e2, e3]
    exact ⟨s', ih⟩
theorem marked_is (a : Nat) (l : List Int) (ha : a ≤ 100) (hg : risL 1 a 0 l = true) (k : Nat) (hk : 600 < k) : ∃ s, impl_marked.f k a l = some (mxF (dropN a l) (a + 1), s) := by
  have e2 : wrap64 ((a : Int) + 1) = (a : Int) + 1 := by unfold wrap64; omega
  unfold impl_marked.f
  rw [e2]
  exact marked_l0 a l ha hg (a + 1) k 0 0 (by omega) (by omega) (by omega)
theorem stWorst_l (a : Nat) (l : List Int) (ha : a ≤ 100) (hg : risL 1 a 0 l = true) : ∀ (d k i : Nat), a + 1 - i = d → i ≤ a + 1 → 400 + d < k →
    spec_stWorst.l0 k a l (mxF (dropN a l) i) i = some (mxF (dropN a l) (a + 1))
  | 0, k, i, hd, hi, hk => by
    obtain ⟨k, rfl⟩ : ∃ m, k = m + 1 := ⟨k - 1, by omega⟩
    obtain rfl : i = a + 1 := by omega
    rw [spec_stWorst.l0, if_neg (by omega)]
  | d + 1, k, i, hd, hi, hk => by
    obtain ⟨k, rfl⟩ : ∃ m, k = m + 1 := ⟨k - 1, by omega⟩
    obtain ⟨r, hr, _, hl, _⟩ := dropN_is a l i (by omega) (by omega) (by omega) hg k (by omega)
    have ih := stWorst_l a l ha hg d k (i + 1) (by omega) (by omega) (by omega)
    have e2 : wrap64 ((i : Int) + 1) = ((i + 1 : Nat) : Int) := by unfold wrap64; omega
    rw [spec_stWorst.l0, if_pos (by clear e2; omega), hr, Option.bind_some, spec_l1Most_is, Option.bind_some, e2, hl]
    exact ih
theorem stWorst_is (a : Nat) (l : List Int) (ha : a ≤ 100) (hg : risL 1 a 0 l = true) (k : Nat) (hk : 600 < k) : spec_stWorst.f k a l = some (mxF (dropN a l) (a + 1)) := by
  unfold spec_stWorst.f
  exact stWorst_l a l ha hg (a + 1) k 0 (by omega) (by omega) (by omega)

end Go.Proofs.YtaniojfokildiaaGreatDoor.PrintA
