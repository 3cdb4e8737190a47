-- written by this session's own driver (wip/gen.py) with the kit's print and contracts of our own
import Derived.Test.YtkbmefmnfoalhaaPrintC0
import Derived.Test.YtkbmefmnfoalhaaPrintC12
import Derived.Test.YtkbmefmnfoalhaaPrintC15
import Derived.Test.YtkbmefmnfoalhaaPrintC16
import Derived.Test.YtkbmefmnfoalhaaPrintC17
namespace Go.Proofs.Ytkbmefmnfoalhaa.PrintC
open Go.RowKit Go.Proofs.YtkbmefmnfoalhaaLib Go.Proofs.YtkbmefmnfoalhaaW.PrintWords Go.Proofs.YtkbmefmnfoalhaaW.PrintLast Go.Proofs.YtkbmefmnfoalhaaW.PrintMore
attribute [local go_sem] max2_int min2_int max_two min_two max_three min_three max_four min_four   -- for this text's walks alone
set_option linter.unusedVariables false
set_option linter.unusedSimpArgs false

/-! ### impl_WorthEggs: function 15, a contract of our own -/
def impl_WorthEggs.f (k : Nat) (a0_0 a0_1 a0_2 a1 : Int) : Option (Int × Int × Bool) := (impl_isCostly.f a0_0 a0_1 a0_2 1 a1).bind fun t => if t = true then some ((wE a0_0 a0_1 a0_2 a1.toNat 9 1 : Nat), cst a0_0 a0_1 a0_2 10 a1.toNat 0, true) else some (0, 0, false)
theorem impl_WorthEggs.mono : ∀ a0_0 a0_1 a0_2 a1 k, LeO (impl_WorthEggs.f k a0_0 a0_1 a0_2 a1) (impl_WorthEggs.f (k + 1) a0_0 a0_1 a0_2 a1) := fun _ _ _ _ _ => LeO.refl _
set_option maxHeartbeats 8000000 in
set_option maxRecDepth 100000 in
theorem impl_WorthEggs.calls (k : Nat) (a0_0 a0_1 a0_2 a1 : Int) (r1 r2 : Int) (r3 : Bool) (w : World) (h : impl_WorthEggs.f k a0_0 a0_1 a0_2 a1 = some (r1, r2, r3)) :
    Calls Try.prog 15 #[.agg #[.int .i64 a0_0, .int .i64 a0_1, .int .i64 a0_2], .int .i64 a1] w fun e w' => e = .returned (.tuple #[.int .i64 r1, .int .i64 r2, .bool r3]) ∧ Below w.heap.size w w' := by
  unfold impl_WorthEggs.f at h
  obtain ⟨t, ht, h⟩ := Option.bind_eq_some_iff.mp h
  have HW := Aside0.mk (fun W => impl_isCostly.calls a0_0 a0_1 a0_2 1 a1 t W ht)
  have HB := Aside0.mk (Below.refl w.heap.size w)
  cases t with
  | false =>
    rw [if_neg (by decide)] at h
    obtain ⟨rfl, h_⟩ := Prod.mk.inj (Option.some.inj h)
    obtain ⟨rfl, rfl⟩ := Prod.mk.inj h_
    clear h ht
    go_enter Try.func15, Try.ntmps15
    go_wp2_with (first
      | ((with_reducible refine gate_dst (N := 2) rfl ?_); refine box_event ?hg (N := 2) ?hd (cs := #[.int .i64 a0_0, .int .i64 a0_1, .int .i64 a0_2]) (t := 28) ?hr ?_; (case hd => rfl); (case hg => rfl); (case hr => first | (go_simp; done) | (go_simp; rfl)); intro g3 hg w3 hbox hb; have HB := Aside0.mk (below_step HB.out hb); have K3 := Aside0.mk hbox; have hx0 : w3.cell? ⟨g3, 0, none⟩ = some (.int .i64 a0_0) := (blk_cell hbox 0).trans rfl; have hx1 : w3.cell? ⟨g3, 1, none⟩ = some (.int .i64 a0_1) := (blk_cell hbox 1).trans rfl; have hx2 : w3.cell? ⟨g3, 2, none⟩ = some (.int .i64 a0_2) := (blk_cell hbox 2).trans rfl; clear hg hbox hb)
      | (go_at_call 27; refine (HW.out _).mono ?_; rintro e_ w4 ⟨rfl, hb⟩; have HB := Aside0.mk (below_step HB.out hb); have K3 := Aside0.mk (blk_below K3.out hb); clear hx0 hx1 hx2; have hx0 : w4.cell? ⟨g3, 0, none⟩ = some (.int .i64 a0_0) := (blk_cell K3.out 0).trans rfl; have hx1 : w4.cell? ⟨g3, 1, none⟩ = some (.int .i64 a0_1) := (blk_cell K3.out 1).trans rfl; have hx2 : w4.cell? ⟨g3, 2, none⟩ = some (.int .i64 a0_2) := (blk_cell K3.out 2).trans rfl; clear hb))
    go_ret3
    exact ⟨rfl, HB.out⟩
  | true =>
    rw [if_pos rfl] at h
    obtain ⟨⟨⟨p0, p1⟩, ⟨p2, p3⟩, ⟨p4, p5⟩⟩, ⟨ha, hb⟩, ⟨hc, hd⟩⟩ := costly_true ht
    have HPR := Aside0.mk (show Prs a0_0 a0_1 a0_2 from ⟨p0, p1, p2, p3, p4, p5⟩)
    obtain ⟨rfl, h_⟩ := Prod.mk.inj (Option.some.inj h)
    obtain ⟨rfl, rfl⟩ := Prod.mk.inj h_
    obtain ⟨n, rfl⟩ : ∃ m : Nat, a1 = m := ⟨a1.toNat, by omega⟩
    rw [Int.toNat_natCast]
    have hz2 : (n : Int) < 61 := by omega
    clear h ht p0 p1 p2 p3 p4 p5
    go_enter Try.func15, Try.ntmps15
    go_wp2_with (first
      | ((with_reducible refine gate_dst (N := 2) rfl ?_); refine box_event ?hg (N := 2) ?hd (cs := #[.int .i64 a0_0, .int .i64 a0_1, .int .i64 a0_2]) (t := 28) ?hr ?_; (case hd => rfl); (case hg => rfl); (case hr => first | (go_simp; done) | (go_simp; rfl)); intro g3 hg w3 hbox hb; have HB := Aside0.mk (below_step HB.out hb); have K3 := Aside0.mk hbox; have hx0 : w3.cell? ⟨g3, 0, none⟩ = some (.int .i64 a0_0) := (blk_cell hbox 0).trans rfl; have hx1 : w3.cell? ⟨g3, 1, none⟩ = some (.int .i64 a0_1) := (blk_cell hbox 1).trans rfl; have hx2 : w3.cell? ⟨g3, 2, none⟩ = some (.int .i64 a0_2) := (blk_cell hbox 2).trans rfl; clear hg hbox hb)
      | (go_at_call 27; refine (HW.out _).mono ?_; rintro e_ w4 ⟨rfl, hb⟩; have HB := Aside0.mk (below_step HB.out hb); have K3 := Aside0.mk (blk_below K3.out hb); clear hx0 hx1 hx2; have hx0 : w4.cell? ⟨g3, 0, none⟩ = some (.int .i64 a0_0) := (blk_cell K3.out 0).trans rfl; have hx1 : w4.cell? ⟨g3, 1, none⟩ = some (.int .i64 a0_1) := (blk_cell K3.out 1).trans rfl; have hx2 : w4.cell? ⟨g3, 2, none⟩ = some (.int .i64 a0_2) := (blk_cell K3.out 2).trans rfl; clear hb)
      | (go_at_call 28; refine (newCoster_calls a0_0 a0_1 a0_2 _ HPR.out).mono ?_; rintro e_ w5 ⟨g, rfl, hR, hb⟩; have HR := Aside0.mk hR; have hat10 := IsCoster.at_ hR 10 n 0 (by omega) (by omega) (by omega); rw [Nat.add_zero] at hat10; have HB := Aside0.mk (below_step HB.out hb); clear hR hb hx0 hx1 hx2))
    go_loopg [8] 10 (fun gg v8 wr => ∃ e : Nat, 1 ≤ e ∧ e ≤ 10 ∧ 10 - e ≤ gg ∧ v8 = .int .i64 e ∧ Aside0 (wE a0_0 a0_1 a0_2 n (10 - e) e = wE a0_0 a0_1 a0_2 n 9 1) ∧ Aside0 (IsCoster wr g a0_0 a0_1 a0_2 (cst a0_0 a0_1 a0_2)) ∧ Aside0 (Below w.heap.size w wr))
    case atStart => exact ⟨1, by omega, by omega, by omega, rfl, ⟨rfl⟩, HR, HB⟩
    case round =>
      clear HR HB
      obtain ⟨e, he1, he2, hgg, rfl, HE, HR, HB⟩ := hrel
      have hat := HR.out.at_ e n 0 he2 (by omega) (by omega)
      rw [Nat.add_zero] at hat
      have hz1 : (e : Int) < 11 := by omega
      by_cases hc : cst a0_0 a0_1 a0_2 e n 0 = cst a0_0 a0_1 a0_2 10 n 0
      · have hfin : (e : Int) = (wE a0_0 a0_1 a0_2 n 9 1 : Nat) := by
          rw [← HE.out]
          rcases (by omega : e = 10 ∨ e < 10) with rfl | hlt
          · rfl
          · rw [show 10 - e = (9 - e) + 1 by omega, wE_step, if_pos hc]
        have HF := Aside0.mk hfin
        clear hfin
        go_wp2
        go_ret3
        exact ⟨by rw [← HF.out]; rfl, HB.out⟩
      · have hlt : e < 10 := by
          rcases (by omega : e = 10 ∨ e < 10) with rfl | hlt
          · exact absurd rfl hc
          · exact hlt
        have HE2 := HE.out
        rw [show 10 - e = (10 - (e + 1)) + 1 by omega, wE_step, if_neg hc] at HE2
        have HE3 := Aside0.mk HE2
        clear HE2
        go_wp2
        go_roundg (10 - (e + 1))
        case measure => omega
        case rel => exact ⟨e + 1, by omega, by omega, by omega, by go_num, HE3, HR, HB⟩

end Go.Proofs.Ytkbmefmnfoalhaa.PrintC
