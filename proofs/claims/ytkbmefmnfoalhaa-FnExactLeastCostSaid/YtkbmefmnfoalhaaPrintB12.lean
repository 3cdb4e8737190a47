-- written by this session's own driver (wip/gen.py) with the kit's print and contracts of our own
import Derived.Test.YtkbmefmnfoalhaaPrintB0
import Derived.Test.YtkbmefmnfoalhaaPrintB6
import Derived.Test.YtkbmefmnfoalhaaPrintB9
import Derived.Test.YtkbmefmnfoalhaaPrintB11
namespace Go.Proofs.Ytkbmefmnfoalhaa.PrintB
open Go.RowKit Go.Proofs.YtkbmefmnfoalhaaLib Go.Proofs.YtkbmefmnfoalhaaW.PrintWords Go.Proofs.YtkbmefmnfoalhaaW.PrintLast Go.Proofs.YtkbmefmnfoalhaaW.PrintMore
attribute [local go_sem] max2_int min2_int max_two min_two max_three min_three max_four min_four   -- for this text's walks alone
set_option linter.unusedVariables false
set_option linter.unusedSimpArgs false

/-! ### spec_LeastCost: function 11, a contract of our own -/
def spec_LeastCost.f (k : Nat) (a0_0 a0_1 a0_2 a1 a2 : Int) : Option (Int × Bool) := (spec_csAsked.f k a0_0 a0_1 a0_2 a1 a2).bind fun t => if t = true then some (cst a0_0 a0_1 a0_2 a1.toNat a2.toNat 0, true) else some (0, false)
theorem spec_LeastCost.mono : ∀ a0_0 a0_1 a0_2 a1 a2 k, LeO (spec_LeastCost.f k a0_0 a0_1 a0_2 a1 a2) (spec_LeastCost.f (k + 1) a0_0 a0_1 a0_2 a1 a2) := by
  intro a0_0 a0_1 a0_2 a1 a2 k
  unfold spec_LeastCost.f
  exact LeO.bind (spec_csAsked.mono _ _ _ _ _ k) (fun t => LeO.refl _)
set_option maxHeartbeats 8000000 in
set_option maxRecDepth 100000 in
theorem spec_LeastCost.calls (k : Nat) (a0_0 a0_1 a0_2 a1 a2 : Int) (r1 : Int) (r2 : Bool) (w : World) (h : spec_LeastCost.f k a0_0 a0_1 a0_2 a1 a2 = some (r1, r2)) :
    Calls Try.prog 11 #[.agg #[.int .i64 a0_0, .int .i64 a0_1, .int .i64 a0_2], .int .i64 a1, .int .i64 a2] w fun e w' => e = .returned (.tuple #[.int .i64 r1, .bool r2]) ∧ Below w.heap.size w w' := by
  unfold spec_LeastCost.f at h
  obtain ⟨t, ht, h⟩ := Option.bind_eq_some_iff.mp h
  have HW := Aside0.mk (fun W => spec_csAsked.calls k a0_0 a0_1 a0_2 a1 a2 t W ht)
  have HB := Aside0.mk (Below.refl w.heap.size w)
  cases t with
  | false =>
    rw [if_neg (by decide)] at h
    obtain ⟨rfl, rfl⟩ := Prod.mk.inj (Option.some.inj h)
    clear h ht
    go_enter Try.func11, Try.ntmps11
    go_wp2_with (first
      | ((with_reducible refine gate_dst (N := 3) rfl ?_); refine box_event ?hg (N := 3) ?hd (cs := #[.int .i64 a0_0, .int .i64 a0_1, .int .i64 a0_2]) (t := 28) ?hr ?_; (case hd => rfl); (case hg => rfl); (case hr => first | (go_simp; done) | (go_simp; rfl)); intro g3 hg w3 hbox hb; have HB := Aside0.mk (below_step HB.out hb); have hx0 : w3.cell? ⟨g3, 0, none⟩ = some (.int .i64 a0_0) := (blk_cell hbox 0).trans rfl; have hx1 : w3.cell? ⟨g3, 1, none⟩ = some (.int .i64 a0_1) := (blk_cell hbox 1).trans rfl; have hx2 : w3.cell? ⟨g3, 2, none⟩ = some (.int .i64 a0_2) := (blk_cell hbox 2).trans rfl; clear hg hbox hb)
      | (go_at_call 25; refine (HW.out _).mono ?_; rintro e w' ⟨rfl, hb⟩; have HB := Aside0.mk (below_step HB.out hb); clear hb hx0 hx1 hx2))
    go_ret2
    exact ⟨rfl, HB.out⟩
  | true =>
    rw [if_pos rfl] at h
    obtain ⟨⟨⟨p0, p1⟩, ⟨p2, p3⟩, ⟨p4, p5⟩⟩, ⟨ha, hb⟩, ⟨hc, hd⟩⟩ := asked_true ht
    have HPR := Aside0.mk (show Prs a0_0 a0_1 a0_2 from ⟨p0, p1, p2, p3, p4, p5⟩)
    obtain ⟨rfl, rfl⟩ := Prod.mk.inj (Option.some.inj h)
    obtain ⟨e, rfl⟩ : ∃ m : Nat, a1 = m := ⟨a1.toNat, by omega⟩
    obtain ⟨n, rfl⟩ : ∃ m : Nat, a2 = m := ⟨a2.toNat, by omega⟩
    rw [Int.toNat_natCast, Int.toNat_natCast]
    have hz1 : (e : Int) < (e : Int) + 1 := by omega
    have hz2 : (n : Int) < (n : Int) + 1 := by omega
    have HN1 : Aside0 (e ≤ 10) := ⟨by omega⟩
    have HN2 : Aside0 (n ≤ 60) := ⟨by omega⟩
    have HTV : Aside0 (∀ L : Nat → List Int, TV L a0_0 a0_1 a0_2 e n 0 (e + 1) 1 → rd (L e) (n : Int) = cst a0_0 a0_1 a0_2 e n 0) := ⟨fun L hL => by
      rw [hL.v e n (Nat.le_refl _) (Nat.le_refl _)]; unfold tv; rw [if_neg (by omega), if_pos (by omega)]⟩
    clear h ht p0 p1 p2 p3 p4 p5
    go_enter Try.func11, Try.ntmps11
    go_wp2_with (first
      | ((with_reducible refine gate_dst (N := 3) rfl ?_); refine box_event ?hg (N := 3) ?hd (cs := #[.int .i64 a0_0, .int .i64 a0_1, .int .i64 a0_2]) (t := 28) ?hr ?_; (case hd => rfl); (case hg => rfl); (case hr => first | (go_simp; done) | (go_simp; rfl)); intro g3 hg w3 hbox hb; have HB := Aside0.mk (below_step HB.out hb); have K3 := Aside0.mk hbox; have hx0 : w3.cell? ⟨g3, 0, none⟩ = some (.int .i64 a0_0) := (blk_cell hbox 0).trans rfl; have hx1 : w3.cell? ⟨g3, 1, none⟩ = some (.int .i64 a0_1) := (blk_cell hbox 1).trans rfl; have hx2 : w3.cell? ⟨g3, 2, none⟩ = some (.int .i64 a0_2) := (blk_cell hbox 2).trans rfl; clear hg hbox hb)
      | (go_at_call 25; refine (HW.out _).mono ?_; rintro e_ w4 ⟨rfl, hb⟩; have HB := Aside0.mk (below_step HB.out hb); have K3 := Aside0.mk (blk_below K3.out hb); clear hx0 hx1 hx2; have hx0 : w4.cell? ⟨g3, 0, none⟩ = some (.int .i64 a0_0) := (blk_cell K3.out 0).trans rfl; have hx1 : w4.cell? ⟨g3, 1, none⟩ = some (.int .i64 a0_1) := (blk_cell K3.out 1).trans rfl; have hx2 : w4.cell? ⟨g3, 2, none⟩ = some (.int .i64 a0_2) := (blk_cell K3.out 2).trans rfl; clear hb)
      | (go_at_call 26; refine (csMake_calls a0_0 a0_1 a0_2 e n _ HN1.out HN2.out HPR.out).mono ?_; rintro e_ w5 ⟨vl, vh, Rl, Rh, Ll, Lh, rfl, SL, SH, hl, hh, TL, TH, hb⟩; obtain ⟨gl, cl, rfl, hcl⟩ := SL.cells hl; obtain ⟨gh, ch, rfl, _⟩ := SH.cells hh; obtain ⟨p, hp, hc⟩ := hcl e (Nat.le_refl _); have hd := (SL.at_ e p hp n (Nat.le_refl _)).1; rw [HTV.out Ll TL] at hd; have HB := Aside0.mk (below_step HB.out hb); have hq1 := fun o => cell_below hc (below_alloc (Below.refl w5.heap.size w5) o); have hq2 := fun o => cell_below hd (below_alloc (Below.refl w5.heap.size w5) o); clear SL SH hl hh TL TH hb hx0 hx1 hx2 hcl hc hd hp))
    go_ret2
    exact ⟨rfl, by (repeat (first | (with_reducible first | exact HB.out | apply below_alloc | apply pw_below_drewN | apply below_drew1) | exact HB.out))⟩


/-! ### spec_LeastClimbs: function 9 -/
def spec_LeastClimbs.f (k : Nat) (a0 : Int) (a1 : Int) : Option (Int × Bool) := (spec_LeastCost.f k 0 0 1 a0 a1).bind fun bt114 => (some (bt114.1, bt114.2))
theorem spec_LeastClimbs.mono : ∀ a0 a1 k, LeO (spec_LeastClimbs.f k a0 a1) (spec_LeastClimbs.f (k + 1) a0 a1) := by
  intro a0 a1 k
  unfold spec_LeastClimbs.f
  repeat' first
      | (with_reducible exact spec_LeastCost.mono _ _ _ _ _ _)
      | (with_reducible exact LeO.refl _)
      | (with_reducible exact LeO.none _)
      | (with_reducible refine LeO.ite ?_ ?_)
      | (with_reducible refine LeO.bind ?_ (fun _ => ?_))
      | exact spec_LeastCost.mono _ _ _ _ _ _
      | exact LeO.none _
      | refine LeO.ite ?_ ?_
      | refine LeO.bind ?_ (fun _ => ?_)
set_option maxHeartbeats 8000000 in
set_option maxRecDepth 100000 in
theorem spec_LeastClimbs.calls (k : Nat) (a0 : Int) (a1 : Int) (r1 : Int) (r2 : Bool) (w : World) (h : spec_LeastClimbs.f k a0 a1 = some (r1, r2)) :
    Calls Try.prog 9 #[.int .i64 a0, .int .i64 a1] w fun e w' => e = .returned (.tuple #[.int .i64 r1, .bool r2]) ∧ Below w.heap.size w w' := by
  have hu28 := Try.underlying28
  have HB := Aside0.mk (Below.refl w.heap.size w)
  have H : ((spec_LeastCost.f k 0 0 1 a0 a1).bind fun bt114 => (some (bt114.1, bt114.2))) = some (r1, r2) := h
  clear h
  replace H := Option.bind_eq_some_iff.mp H
  obtain ⟨⟨t114, t115⟩, A30, H⟩ := H
  replace H : (some (t114, t115)) = some (r1, r2) := H
  have A3 := Aside0.mk A30
  clear A30
  simp only [Option.some.injEq, Prod.mk.injEq] at H
  obtain ⟨rfl, rfl⟩ := H
  go_enter Try.func9, Try.ntmps9
  go_wp2_with (first | ((with_reducible refine gate_callee (f := 11) rfl ?_); refine goesL_ (some 9) rfl rfl Try.func11 (by kernel_rfl) rfl #[.agg #[.int .i64 0, .int .i64 0, .int .i64 1], .int .i64 a0, .int .i64 a1] rfl (by (try simp only [List.map_toArray, List.map_cons, List.map_nil]); first | done | rfl | (simp only [List.length_drop, List.length_take]; rfl)) ?_; (with_reducible refine (spec_LeastCost.calls k 0 0 1 a0 a1 t114 t115 _ A3.out).mono ?_); rintro e w4 ⟨rfl, hb⟩; refine ⟨_, rfl, ?_⟩; have n0_ := Aside0.mk (below_step (by repeat (first | (with_reducible first | exact HB.out | apply below_alloc | apply pw_below_drewN | apply below_drew1) | exact HB.out)) hb); clear HB; have HB := n0_; clear n0_; (try clear hb); (try clear hb2); (try clear hk); (try clear hi)))
  go_ret2
  exact ⟨by first | rfl | (simp [errW_none, errW_some] <;> rfl) | (simp [*, errW_none, errW_some] <;> rfl), by repeat (first | (with_reducible first | exact HB.out | apply below_alloc | apply pw_below_drewN | apply below_drew1) | exact HB.out)⟩

end Go.Proofs.Ytkbmefmnfoalhaa.PrintB
