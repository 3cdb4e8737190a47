-- written by this session's own driver (wip/gen.py) with the kit's print and contracts of our own
import Derived.Test.YtkbmefmnfoalhaaPrintC0
import Derived.Test.YtkbmefmnfoalhaaPrintC15
import Derived.Test.YtkbmefmnfoalhaaPrintC17
import Derived.Test.YtkbmefmnfoalhaaPrintC31
namespace Go.Proofs.Ytkbmefmnfoalhaa.PrintC
open Go.RowKit Go.Proofs.YtkbmefmnfoalhaaLib Go.Proofs.YtkbmefmnfoalhaaW.PrintWords Go.Proofs.YtkbmefmnfoalhaaW.PrintLast Go.Proofs.YtkbmefmnfoalhaaW.PrintMore
attribute [local go_sem] max2_int min2_int max_two min_two max_three min_three max_four min_four   -- for this text's walks alone
set_option linter.unusedVariables false
set_option linter.unusedSimpArgs false

/-! ### impl_CostFloors: function 24, a contract of our own -/
def impl_CostFloors.f (a0_0 a0_1 a0_2 a1 a2 : Int) : Option ((List Int) × Bool) := (impl_isCostly.f a0_0 a0_1 a0_2 a1 a2).bind fun t => if t = true then some (flI a0_0 a0_1 a0_2 a1.toNat a2.toNat a2.toNat, true) else some ([], false)
set_option maxHeartbeats 8000000 in
set_option maxRecDepth 100000 in
theorem impl_CostFloors.calls (a0_0 a0_1 a0_2 a1 a2 : Int) (r1 : List Int) (r2 : Bool) (w : World) (h : impl_CostFloors.f a0_0 a0_1 a0_2 a1 a2 = some (r1, r2)) :
    Calls Try.prog 24 #[.agg #[.int .i64 a0_0, .int .i64 a0_1, .int .i64 a0_2], .int .i64 a1, .int .i64 a2] w fun e w' => ∃ v0_ : Value, e = .returned (.tuple #[v0_, .bool r2]) ∧ Kd.R (Kd.int .i64) 3 w' w.heap.size (fun _ => True) v0_ r1 ∧ Below w.heap.size w w' := by
  unfold impl_CostFloors.f at h
  obtain ⟨t, ht, h⟩ := Option.bind_eq_some_iff.mp h
  have HW := Aside0.mk (fun W => impl_isCostly.calls a0_0 a0_1 a0_2 a1 a2 t W ht)
  have HB := Aside0.mk (Below.refl w.heap.size w)
  cases t with
  | false =>
    rw [if_neg (by decide)] at h
    obtain ⟨rfl, rfl⟩ := Prod.mk.inj (Option.some.inj h)
    clear h ht
    go_enter Try.func24, Try.ntmps24
    go_wp2_with (first
      | ((with_reducible refine gate_dst (N := 3) rfl ?_); refine box_event ?hg (N := 3) ?hd (cs := #[.int .i64 a0_0, .int .i64 a0_1, .int .i64 a0_2]) (t := 28) ?hr ?_; (case hd => rfl); (case hg => rfl); (case hr => first | (go_simp; done) | (go_simp; rfl)); intro g3 hg w3 hbox hb; have HB := Aside0.mk (below_step HB.out hb); have K3 := Aside0.mk hbox; have hx0 : w3.cell? ⟨g3, 0, none⟩ = some (.int .i64 a0_0) := (blk_cell hbox 0).trans rfl; have hx1 : w3.cell? ⟨g3, 1, none⟩ = some (.int .i64 a0_1) := (blk_cell hbox 1).trans rfl; have hx2 : w3.cell? ⟨g3, 2, none⟩ = some (.int .i64 a0_2) := (blk_cell hbox 2).trans rfl; clear hg hbox hb)
      | (go_at_call 27; refine (HW.out _).mono ?_; rintro e_ w4 ⟨rfl, hb⟩; have HB := Aside0.mk (below_step HB.out hb); have K3 := Aside0.mk (blk_below K3.out hb); clear hx0 hx1 hx2; have hx0 : w4.cell? ⟨g3, 0, none⟩ = some (.int .i64 a0_0) := (blk_cell K3.out 0).trans rfl; have hx1 : w4.cell? ⟨g3, 1, none⟩ = some (.int .i64 a0_1) := (blk_cell K3.out 1).trans rfl; have hx2 : w4.cell? ⟨g3, 2, none⟩ = some (.int .i64 a0_2) := (blk_cell K3.out 2).trans rfl; clear hb))
    go_ret2
    exact ⟨_, rfl, Kd.R_nil _ _ _ _ _, HB.out⟩
  | true =>
    rw [if_pos rfl] at h
    obtain ⟨⟨⟨p0, p1⟩, ⟨p2, p3⟩, ⟨p4, p5⟩⟩, ⟨ha, hb⟩, ⟨hc, hd⟩⟩ := costly_true ht
    have HPR := Aside0.mk (show Prs a0_0 a0_1 a0_2 from ⟨p0, p1, p2, p3, p4, p5⟩)
    obtain ⟨rfl, rfl⟩ := Prod.mk.inj (Option.some.inj h)
    obtain ⟨e, rfl⟩ : ∃ m : Nat, a1 = m := ⟨a1.toNat, by omega⟩
    obtain ⟨n, rfl⟩ : ∃ m : Nat, a2 = m := ⟨a2.toNat, by omega⟩
    rw [Int.toNat_natCast, Int.toNat_natCast]
    have HN1 : Aside0 (e ≤ 10) := ⟨by omega⟩
    have HN2 : Aside0 (n ≤ 60) := ⟨by omega⟩
    clear h ht p0 p1 p2 p3 p4 p5
    have HE1 : Aside0 (1 ≤ e) := ⟨by omega⟩
    go_enter Try.func24, Try.ntmps24
    go_wp2_with (first
      | ((with_reducible refine gate_dst (N := 3) rfl ?_); refine box_event ?hg (N := 3) ?hd (cs := #[.int .i64 a0_0, .int .i64 a0_1, .int .i64 a0_2]) (t := 28) ?hr ?_; (case hd => rfl); (case hg => rfl); (case hr => first | (go_simp; done) | (go_simp; rfl)); intro g3 hg w3 hbox hb; have HB := Aside0.mk (below_step HB.out hb); have K3 := Aside0.mk hbox; have hx0 : w3.cell? ⟨g3, 0, none⟩ = some (.int .i64 a0_0) := (blk_cell hbox 0).trans rfl; have hx1 : w3.cell? ⟨g3, 1, none⟩ = some (.int .i64 a0_1) := (blk_cell hbox 1).trans rfl; have hx2 : w3.cell? ⟨g3, 2, none⟩ = some (.int .i64 a0_2) := (blk_cell hbox 2).trans rfl; clear hg hbox hb)
      | (go_at_call 27; refine (HW.out _).mono ?_; rintro e_ w4 ⟨rfl, hb⟩; have HB := Aside0.mk (below_step HB.out hb); have K3 := Aside0.mk (blk_below K3.out hb); clear hx0 hx1 hx2; have hx0 : w4.cell? ⟨g3, 0, none⟩ = some (.int .i64 a0_0) := (blk_cell K3.out 0).trans rfl; have hx1 : w4.cell? ⟨g3, 1, none⟩ = some (.int .i64 a0_1) := (blk_cell K3.out 1).trans rfl; have hx2 : w4.cell? ⟨g3, 2, none⟩ = some (.int .i64 a0_2) := (blk_cell K3.out 2).trans rfl; clear hb)
      | (go_at_call 28; refine (newCoster_calls a0_0 a0_1 a0_2 _ HPR.out).mono ?_; rintro e_ w5 ⟨g, rfl, hR, hb⟩; have HR := Aside0.mk hR; skip; have HB := Aside0.mk (below_step HB.out hb); clear hR hb hx0 hx1 hx2)
      | (go_at_call 36; refine (ifloors_calls g e n a0_0 a0_1 a0_2 _ HE1.out HN1.out HN2.out HPR.out HR.out).mono ?_; rintro e_ w7 ⟨v, rfl, hr, hb⟩; have HO := Aside0.mk (Kd.R_lower hr (below_size HB.out)); have HB := Aside0.mk (below_step HB.out hb); clear hr hb))
    go_ret2
    exact ⟨_, rfl, HO.out, HB.out⟩

end Go.Proofs.Ytkbmefmnfoalhaa.PrintC
