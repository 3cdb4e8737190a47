-- written by this session's own driver (wip/gen.py) with the kit's print and contracts of our own
import Derived.Test.YtkbmefmnfoalhaaPrintC0
import Derived.Test.YtkbmefmnfoalhaaPrintC6
import Derived.Test.YtkbmefmnfoalhaaPrintC9
import Derived.Test.YtkbmefmnfoalhaaPrintC11
namespace Go.Proofs.Ytkbmefmnfoalhaa.PrintC
open Go.RowKit Go.Proofs.YtkbmefmnfoalhaaLib Go.Proofs.YtkbmefmnfoalhaaW.PrintWords Go.Proofs.YtkbmefmnfoalhaaW.PrintLast Go.Proofs.YtkbmefmnfoalhaaW.PrintMore
attribute [local go_sem] max2_int min2_int max_two min_two max_three min_three max_four min_four   -- for this text's walks alone
set_option linter.unusedVariables false
set_option linter.unusedSimpArgs false

/-! ### spec_WorthEggs: function 14, a contract of our own -/
/-- The least number of eggs with which the cost is that of ten. -/
def wE (E T C : Int) (n : Nat) : Nat → Nat → Nat
  | 0, e => e
  | d + 1, e => if cst E T C e n 0 = cst E T C 10 n 0 then e else wE E T C n d (e + 1)
theorem wE_step (E T C : Int) (n d e : Nat) : wE E T C n (d + 1) e = if cst E T C e n 0 = cst E T C 10 n 0 then e else wE E T C n d (e + 1) := rfl
def spec_WorthEggs.f (k : Nat) (a0_0 a0_1 a0_2 a1 : Int) : Option (Int × Int × Bool) := (spec_csAsked.f k a0_0 a0_1 a0_2 10 a1).bind fun t => if t = true then some ((wE a0_0 a0_1 a0_2 a1.toNat 9 1 : Nat), cst a0_0 a0_1 a0_2 10 a1.toNat 0, true) else some (0, 0, false)
theorem spec_WorthEggs.mono : ∀ a0_0 a0_1 a0_2 a1 k, LeO (spec_WorthEggs.f k a0_0 a0_1 a0_2 a1) (spec_WorthEggs.f (k + 1) a0_0 a0_1 a0_2 a1) := by
  intro a0_0 a0_1 a0_2 a1 k
  unfold spec_WorthEggs.f
  exact LeO.bind (spec_csAsked.mono _ _ _ _ _ k) (fun t => LeO.refl _)
set_option maxHeartbeats 8000000 in
set_option maxRecDepth 100000 in
theorem spec_WorthEggs.calls (k : Nat) (a0_0 a0_1 a0_2 a1 : Int) (r1 r2 : Int) (r3 : Bool) (w : World) (h : spec_WorthEggs.f k a0_0 a0_1 a0_2 a1 = some (r1, r2, r3)) :
    Calls Try.prog 14 #[.agg #[.int .i64 a0_0, .int .i64 a0_1, .int .i64 a0_2], .int .i64 a1] w fun e w' => e = .returned (.tuple #[.int .i64 r1, .int .i64 r2, .bool r3]) ∧ Below w.heap.size w w' := by
  unfold spec_WorthEggs.f at h
  obtain ⟨t, ht, h⟩ := Option.bind_eq_some_iff.mp h
  have HW := Aside0.mk (fun W => spec_csAsked.calls k a0_0 a0_1 a0_2 10 a1 t W ht)
  have HB := Aside0.mk (Below.refl w.heap.size w)
  cases t with
  | false =>
    rw [if_neg (by decide)] at h
    obtain ⟨rfl, h_⟩ := Prod.mk.inj (Option.some.inj h)
    obtain ⟨rfl, rfl⟩ := Prod.mk.inj h_
    clear h ht
    go_enter Try.func14, Try.ntmps14
    go_wp2_with (first
      | ((with_reducible refine gate_dst (N := 2) rfl ?_); refine box_event ?hg (N := 2) ?hd (cs := #[.int .i64 a0_0, .int .i64 a0_1, .int .i64 a0_2]) (t := 28) ?hr ?_; (case hd => rfl); (case hg => rfl); (case hr => first | (go_simp; done) | (go_simp; rfl)); intro g3 hg w3 hbox hb; have HB := Aside0.mk (below_step HB.out hb); have K3 := Aside0.mk hbox; have hx0 : w3.cell? ⟨g3, 0, none⟩ = some (.int .i64 a0_0) := (blk_cell hbox 0).trans rfl; have hx1 : w3.cell? ⟨g3, 1, none⟩ = some (.int .i64 a0_1) := (blk_cell hbox 1).trans rfl; have hx2 : w3.cell? ⟨g3, 2, none⟩ = some (.int .i64 a0_2) := (blk_cell hbox 2).trans rfl; clear hg hbox hb)
      | (go_at_call 25; refine (HW.out _).mono ?_; rintro e_ w4 ⟨rfl, hb⟩; have HB := Aside0.mk (below_step HB.out hb); have K3 := Aside0.mk (blk_below K3.out hb); clear hx0 hx1 hx2; have hx0 : w4.cell? ⟨g3, 0, none⟩ = some (.int .i64 a0_0) := (blk_cell K3.out 0).trans rfl; have hx1 : w4.cell? ⟨g3, 1, none⟩ = some (.int .i64 a0_1) := (blk_cell K3.out 1).trans rfl; have hx2 : w4.cell? ⟨g3, 2, none⟩ = some (.int .i64 a0_2) := (blk_cell K3.out 2).trans rfl; clear hb))
    go_ret3
    exact ⟨rfl, HB.out⟩
  | true =>
    rw [if_pos rfl] at h
    obtain ⟨⟨⟨p0, p1⟩, ⟨p2, p3⟩, ⟨p4, p5⟩⟩, ⟨ha, hb⟩, ⟨hc, hd⟩⟩ := asked_true ht
    have HPR := Aside0.mk (show Prs a0_0 a0_1 a0_2 from ⟨p0, p1, p2, p3, p4, p5⟩)
    obtain ⟨rfl, h_⟩ := Prod.mk.inj (Option.some.inj h)
    obtain ⟨rfl, rfl⟩ := Prod.mk.inj h_
    obtain ⟨n, rfl⟩ : ∃ m : Nat, a1 = m := ⟨a1.toNat, by omega⟩
    rw [Int.toNat_natCast]
    have hz2 : (n : Int) < (n : Int) + 1 := by omega
    have HN1 : Aside0 ((10 : Nat) ≤ 10) := ⟨by omega⟩
    have HN2 : Aside0 (n ≤ 60) := ⟨by omega⟩
    have HTV : Aside0 (∀ (L : Nat → List Int) (e : Nat), 1 ≤ e → e ≤ 10 → TV L a0_0 a0_1 a0_2 10 n 0 (10 + 1) 1 → rd (L e) (n : Int) = cst a0_0 a0_1 a0_2 e n 0) := ⟨fun L e h1 h2 hL => by
      rw [hL.v e n h2 (Nat.le_refl _)]; unfold tv; rw [if_neg (by omega), if_pos (by omega)]⟩
    clear h ht p0 p1 p2 p3 p4 p5
    go_enter Try.func14, Try.ntmps14
    go_wp2_with (first
      | ((with_reducible refine gate_dst (N := 2) rfl ?_); refine box_event ?hg (N := 2) ?hd (cs := #[.int .i64 a0_0, .int .i64 a0_1, .int .i64 a0_2]) (t := 28) ?hr ?_; (case hd => rfl); (case hg => rfl); (case hr => first | (go_simp; done) | (go_simp; rfl)); intro g3 hg w3 hbox hb; have HB := Aside0.mk (below_step HB.out hb); have K3 := Aside0.mk hbox; have hx0 : w3.cell? ⟨g3, 0, none⟩ = some (.int .i64 a0_0) := (blk_cell hbox 0).trans rfl; have hx1 : w3.cell? ⟨g3, 1, none⟩ = some (.int .i64 a0_1) := (blk_cell hbox 1).trans rfl; have hx2 : w3.cell? ⟨g3, 2, none⟩ = some (.int .i64 a0_2) := (blk_cell hbox 2).trans rfl; clear hg hbox hb)
      | (go_at_call 25; refine (HW.out _).mono ?_; rintro e_ w4 ⟨rfl, hb⟩; have HB := Aside0.mk (below_step HB.out hb); have K3 := Aside0.mk (blk_below K3.out hb); clear hx0 hx1 hx2; have hx0 : w4.cell? ⟨g3, 0, none⟩ = some (.int .i64 a0_0) := (blk_cell K3.out 0).trans rfl; have hx1 : w4.cell? ⟨g3, 1, none⟩ = some (.int .i64 a0_1) := (blk_cell K3.out 1).trans rfl; have hx2 : w4.cell? ⟨g3, 2, none⟩ = some (.int .i64 a0_2) := (blk_cell K3.out 2).trans rfl; clear hb)
      | (go_at_call 26; refine (csMake_calls a0_0 a0_1 a0_2 10 n _ HN1.out HN2.out HPR.out).mono ?_; rintro e_ w5 ⟨vl, vh, Rl, Rh, Ll, Lh, rfl, SL, SH, hl, hh, TL, TH, hb⟩; obtain ⟨gl, cl, rfl, hcl⟩ := SL.cells hl; obtain ⟨gh, ch, rfl, hch⟩ := SH.cells hh; have HB := Aside0.mk (below_step HB.out hb); have HCL := Aside0.mk (fun (e : Nat) (h1 : 1 ≤ e) (he : e ≤ 10) => (show ∃ p : Nat × Nat, (∀ o, (w5.alloc o).cell? ⟨gl, e, none⟩ = some (.slice (some ⟨p.1, 0, none⟩) (n + 1) p.2)) ∧ (∀ o, (w5.alloc o).cell? ⟨p.1, n, none⟩ = some (.int .i64 (cst a0_0 a0_1 a0_2 e n 0))) from by obtain ⟨p, hp, hc⟩ := hcl e he; have hd := (SL.at_ e p hp n (Nat.le_refl _)).1; rw [HTV.out Ll e h1 he TL] at hd; exact ⟨p, fun o => cell_below hc (below_alloc (Below.refl w5.heap.size w5) o), fun o => cell_below hd (below_alloc (Below.refl w5.heap.size w5) o)⟩)); obtain ⟨p10, hq1, hq2⟩ := HCL.out 10 (by omega) (by omega); clear hcl hch SL SH hl hh TL TH hb hx0 hx1 hx2))
    go_loopg [9] 10 (fun gg v9 wr => ∃ e : Nat, 1 ≤ e ∧ e ≤ 10 ∧ 10 - e ≤ gg ∧ v9 = .int .i64 e ∧ Aside0 (wE a0_0 a0_1 a0_2 n (10 - e) e = wE a0_0 a0_1 a0_2 n 9 1) ∧ Aside0 (wr.cell? ⟨w5.heap.size, 3, none⟩ = some (.slice (some ⟨gl, 0, none⟩) (10 + 1) cl)) ∧ Aside0 (∀ e : Nat, 1 ≤ e → e ≤ 10 → ∃ p : Nat × Nat, wr.cell? ⟨gl, e, none⟩ = some (.slice (some ⟨p.1, 0, none⟩) (n + 1) p.2) ∧ wr.cell? ⟨p.1, n, none⟩ = some (.int .i64 (cst a0_0 a0_1 a0_2 e n 0))) ∧ Aside0 (Below w.heap.size w wr))
    case atStart => exact ⟨1, by omega, by omega, by omega, rfl, ⟨rfl⟩, ⟨(blk_cell (blk_new _ _) 3).trans rfl⟩, ⟨fun e h1 h2 => by obtain ⟨p, hp1, hp2⟩ := HCL.out e h1 h2; exact ⟨p, hp1 _, hp2 _⟩⟩, ⟨by (repeat (first | (with_reducible first | exact HB.out | apply below_alloc | apply pw_below_drewN | apply below_drew1) | exact HB.out))⟩⟩
    case round =>
      clear HCL HB hq1 hq2
      obtain ⟨e, he1, he2, hgg, rfl, HE, HK, HCL, HB⟩ := hrel
      have hk3 := HK.out
      by_cases hlt : e < 10
      · have hltz : (e : Int) < 10 := by omega
        have hltz2 : (e : Int) < 10 + 1 := by omega
        obtain ⟨p, hy1, hy2⟩ := HCL.out e he1 he2
        have HE2 := HE.out
        rw [show 10 - e = (10 - (e + 1)) + 1 by omega, wE_step] at HE2
        by_cases hc : cst a0_0 a0_1 a0_2 e n 0 = cst a0_0 a0_1 a0_2 10 n 0
        · rw [if_pos hc] at HE2
          have HF := Aside0.mk HE2
          clear HE2
          go_wp2
          go_ret3
          exact ⟨by rw [← HF.out]; rfl, HB.out⟩
        · rw [if_neg hc] at HE2
          have HE3 := Aside0.mk HE2
          clear HE2
          go_wp2
          go_roundg (10 - (e + 1))
          case measure => omega
          case rel => exact ⟨e + 1, by omega, by omega, by omega, by go_num, HE3, HK, HCL, HB⟩
      · have hltz : ¬ (e : Int) < 10 := by omega
        obtain rfl : e = 10 := by omega
        have HF : Aside0 (10 = wE a0_0 a0_1 a0_2 n 9 1) := ⟨HE.out⟩
        go_wp2
        go_ret3
        exact ⟨by rw [← HF.out]; rfl, HB.out⟩

end Go.Proofs.Ytkbmefmnfoalhaa.PrintC
