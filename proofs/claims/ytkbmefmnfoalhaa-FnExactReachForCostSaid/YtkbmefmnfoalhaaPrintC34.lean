-- written by this session's own driver (wip/gen.py) with the kit's print and contracts of our own
import Derived.Test.YtkbmefmnfoalhaaPrintC0
import Derived.Test.YtkbmefmnfoalhaaPrintC3
import Derived.Test.YtkbmefmnfoalhaaPrintC6
import Derived.Test.YtkbmefmnfoalhaaPrintC9
import Derived.Test.YtkbmefmnfoalhaaPrintC11
namespace Go.Proofs.Ytkbmefmnfoalhaa.PrintC
open Go.RowKit Go.Proofs.YtkbmefmnfoalhaaLib Go.Proofs.YtkbmefmnfoalhaaW.PrintWords Go.Proofs.YtkbmefmnfoalhaaW.PrintLast Go.Proofs.YtkbmefmnfoalhaaW.PrintMore
attribute [local go_sem] max2_int min2_int max_two min_two max_three min_three max_four min_four   -- for this text's walks alone
set_option linter.unusedVariables false
set_option linter.unusedSimpArgs false

/-! ### spec_ReachForCost: function 16, a contract of our own -/
/-- The floors reached: on and on, as long as the cost of one floor more is not too great. -/
def rF (E T C : Int) (e : Nat) (c : Int) : Nat → Nat → Nat
  | 0, r => r
  | d + 1, r => if cst E T C e (r + 1) 0 ≤ c then rF E T C e c d (r + 1) else r
theorem rF_step (E T C : Int) (e : Nat) (c : Int) (d r : Nat) : rF E T C e c (d + 1) r = if cst E T C e (r + 1) 0 ≤ c then rF E T C e c d (r + 1) else r := rfl
def spec_ReachForCost.f (k : Nat) (a0_0 a0_1 a0_2 a1 a2 : Int) : Option (Int × Bool) := (spec_csAsked.f k a0_0 a0_1 a0_2 a1 0).bind fun t => if t = true then (if 0 ≤ a2 ∧ a2 ≤ 1000000000 then some ((rF a0_0 a0_1 a0_2 a1.toNat a2 60 0 : Nat), true) else some (0, false)) else some (0, false)
theorem spec_ReachForCost.mono : ∀ a0_0 a0_1 a0_2 a1 a2 k, LeO (spec_ReachForCost.f k a0_0 a0_1 a0_2 a1 a2) (spec_ReachForCost.f (k + 1) a0_0 a0_1 a0_2 a1 a2) := by
  intro a0_0 a0_1 a0_2 a1 a2 k
  unfold spec_ReachForCost.f
  exact LeO.bind (spec_csAsked.mono _ _ _ _ _ k) (fun t => LeO.refl _)
set_option maxHeartbeats 8000000 in
set_option maxRecDepth 100000 in
theorem spec_ReachForCost.calls (k : Nat) (a0_0 a0_1 a0_2 a1 a2 : Int) (r1 : Int) (r2 : Bool) (w : World) (h : spec_ReachForCost.f k a0_0 a0_1 a0_2 a1 a2 = some (r1, r2)) :
    Calls Try.prog 16 #[.agg #[.int .i64 a0_0, .int .i64 a0_1, .int .i64 a0_2], .int .i64 a1, .int .i64 a2] w fun e w' => e = .returned (.tuple #[.int .i64 r1, .bool r2]) ∧ Below w.heap.size w w' := by
  unfold spec_ReachForCost.f at h
  obtain ⟨t, ht, h⟩ := Option.bind_eq_some_iff.mp h
  have HW := Aside0.mk (fun W => spec_csAsked.calls k a0_0 a0_1 a0_2 a1 0 t W ht)
  have HB := Aside0.mk (Below.refl w.heap.size w)
  cases t with
  | false =>
    rw [if_neg (by decide)] at h
    obtain ⟨rfl, rfl⟩ := Prod.mk.inj (Option.some.inj h)
    clear h ht
    go_enter Try.func16, Try.ntmps16
    go_wp2_with (first
      | ((with_reducible refine gate_dst (N := 3) rfl ?_); refine box_event ?hg (N := 3) ?hd (cs := #[.int .i64 a0_0, .int .i64 a0_1, .int .i64 a0_2]) (t := 28) ?hr ?_; (case hd => rfl); (case hg => rfl); (case hr => first | (go_simp; done) | (go_simp; rfl)); intro g3 hg w3 hbox hb; have HB := Aside0.mk (below_step HB.out hb); have K3 := Aside0.mk hbox; have hx0 : w3.cell? ⟨g3, 0, none⟩ = some (.int .i64 a0_0) := (blk_cell hbox 0).trans rfl; have hx1 : w3.cell? ⟨g3, 1, none⟩ = some (.int .i64 a0_1) := (blk_cell hbox 1).trans rfl; have hx2 : w3.cell? ⟨g3, 2, none⟩ = some (.int .i64 a0_2) := (blk_cell hbox 2).trans rfl; clear hg hbox hb)
      | (go_at_call 25; refine (HW.out _).mono ?_; rintro e_ w4 ⟨rfl, hb⟩; have HB := Aside0.mk (below_step HB.out hb); have K3 := Aside0.mk (blk_below K3.out hb); clear hx0 hx1 hx2; have hx0 : w4.cell? ⟨g3, 0, none⟩ = some (.int .i64 a0_0) := (blk_cell K3.out 0).trans rfl; have hx1 : w4.cell? ⟨g3, 1, none⟩ = some (.int .i64 a0_1) := (blk_cell K3.out 1).trans rfl; have hx2 : w4.cell? ⟨g3, 2, none⟩ = some (.int .i64 a0_2) := (blk_cell K3.out 2).trans rfl; clear hb))
    go_ret2
    exact ⟨rfl, HB.out⟩
  | true =>
    rw [if_pos rfl] at h
    obtain ⟨⟨⟨p0, p1⟩, ⟨p2, p3⟩, ⟨p4, p5⟩⟩, ⟨ha, hb⟩, ⟨hc, hd⟩⟩ := asked_true ht
    have HPR := Aside0.mk (show Prs a0_0 a0_1 a0_2 from ⟨p0, p1, p2, p3, p4, p5⟩)
    have HIN := fun W => spec_l1In.calls0 a2 0 1000000000 _ W (spec_l1In_is a2 0 1000000000)
    obtain ⟨e, rfl⟩ : ∃ m : Nat, a1 = m := ⟨a1.toNat, by omega⟩
    rw [Int.toNat_natCast] at h
    by_cases hq : 0 ≤ a2 ∧ a2 ≤ 1000000000
    case neg =>
      rw [if_neg hq] at h
      obtain ⟨rfl, rfl⟩ := Prod.mk.inj (Option.some.inj h)
      have hqd : (decide (0 ≤ a2) && decide (a2 ≤ 1000000000)) = false := by simp only [Bool.and_eq_false_iff, decide_eq_false_iff_not]; omega
      rw [hqd] at HIN
      have HIN := Aside0.mk HIN
      clear h ht p0 p1 p2 p3 p4 p5 hqd hq ha hb hc hd
      go_enter Try.func16, Try.ntmps16
      go_wp2_with (first
        | ((with_reducible refine gate_dst (N := 3) rfl ?_); refine box_event ?hg (N := 3) ?hd (cs := #[.int .i64 a0_0, .int .i64 a0_1, .int .i64 a0_2]) (t := 28) ?hr ?_; (case hd => rfl); (case hg => rfl); (case hr => first | (go_simp; done) | (go_simp; rfl)); intro g3 hg w3 hbox hb; have HB := Aside0.mk (below_step HB.out hb); have K3 := Aside0.mk hbox; have hx0 : w3.cell? ⟨g3, 0, none⟩ = some (.int .i64 a0_0) := (blk_cell hbox 0).trans rfl; have hx1 : w3.cell? ⟨g3, 1, none⟩ = some (.int .i64 a0_1) := (blk_cell hbox 1).trans rfl; have hx2 : w3.cell? ⟨g3, 2, none⟩ = some (.int .i64 a0_2) := (blk_cell hbox 2).trans rfl; clear hg hbox hb)
        | (go_at_call 25; refine (HW.out _).mono ?_; rintro e_ w4 ⟨rfl, hb⟩; have HB := Aside0.mk (below_step HB.out hb); have K3 := Aside0.mk (blk_below K3.out hb); clear hx0 hx1 hx2; have hx0 : w4.cell? ⟨g3, 0, none⟩ = some (.int .i64 a0_0) := (blk_cell K3.out 0).trans rfl; have hx1 : w4.cell? ⟨g3, 1, none⟩ = some (.int .i64 a0_1) := (blk_cell K3.out 1).trans rfl; have hx2 : w4.cell? ⟨g3, 2, none⟩ = some (.int .i64 a0_2) := (blk_cell K3.out 2).trans rfl; clear hb)
        | (go_at_call 29; refine (HIN.out _).mono ?_; rintro e_ w_ ⟨rfl, rfl⟩))
      go_ret2
      exact ⟨rfl, HB.out⟩
    rw [if_pos hq] at h
    obtain ⟨hr1, rfl⟩ := Prod.mk.inj (Option.some.inj h)
    have hqd : (decide (0 ≤ a2) && decide (a2 ≤ 1000000000)) = true := by simp [hq]
    rw [hqd] at HIN
    have HIN := Aside0.mk HIN
    have HN1 : Aside0 (e ≤ 10) := ⟨by omega⟩
    have HN2 : Aside0 ((60 : Nat) ≤ 60) := ⟨by omega⟩
    clear h ht p0 p1 p2 p3 p4 p5 hqd
    have HR1 := Aside0.mk hr1
    clear hr1
    have hz1 : (e : Int) < (e : Int) + 1 := by omega
    have HTV : Aside0 (∀ (L : Nat → List Int) (j : Nat), j ≤ 60 → TV L a0_0 a0_1 a0_2 e 60 0 (e + 1) 1 → rd (L e) (j : Int) = cst a0_0 a0_1 a0_2 e j 0) := ⟨fun L j hj hL => by
      rw [hL.v e j (Nat.le_refl _) hj]; unfold tv; rw [if_neg (by omega), if_pos (by omega)]⟩
    clear ha hb hc hd hq
    go_enter Try.func16, Try.ntmps16
    go_wp2_with (first
      | ((with_reducible refine gate_dst (N := 3) rfl ?_); refine box_event ?hg (N := 3) ?hd (cs := #[.int .i64 a0_0, .int .i64 a0_1, .int .i64 a0_2]) (t := 28) ?hr ?_; (case hd => rfl); (case hg => rfl); (case hr => first | (go_simp; done) | (go_simp; rfl)); intro g3 hg w3 hbox hb; have HB := Aside0.mk (below_step HB.out hb); have K3 := Aside0.mk hbox; have hx0 : w3.cell? ⟨g3, 0, none⟩ = some (.int .i64 a0_0) := (blk_cell hbox 0).trans rfl; have hx1 : w3.cell? ⟨g3, 1, none⟩ = some (.int .i64 a0_1) := (blk_cell hbox 1).trans rfl; have hx2 : w3.cell? ⟨g3, 2, none⟩ = some (.int .i64 a0_2) := (blk_cell hbox 2).trans rfl; clear hg hbox hb)
      | (go_at_call 25; refine (HW.out _).mono ?_; rintro e_ w4 ⟨rfl, hb⟩; have HB := Aside0.mk (below_step HB.out hb); have K3 := Aside0.mk (blk_below K3.out hb); clear hx0 hx1 hx2; have hx0 : w4.cell? ⟨g3, 0, none⟩ = some (.int .i64 a0_0) := (blk_cell K3.out 0).trans rfl; have hx1 : w4.cell? ⟨g3, 1, none⟩ = some (.int .i64 a0_1) := (blk_cell K3.out 1).trans rfl; have hx2 : w4.cell? ⟨g3, 2, none⟩ = some (.int .i64 a0_2) := (blk_cell K3.out 2).trans rfl; clear hb)
      | (go_at_call 29; refine (HIN.out _).mono ?_; rintro e_ w_ ⟨rfl, rfl⟩)
      | (go_at_call 26; refine (csMake_calls a0_0 a0_1 a0_2 e 60 _ HN1.out HN2.out HPR.out).mono ?_; rintro e_ w5 ⟨vl, vh, Rl, Rh, Ll, Lh, rfl, SL, SH, hl, hh, TL, TH, hb⟩; obtain ⟨gl, cl, rfl, hcl⟩ := SL.cells hl; obtain ⟨gh, ch, rfl, hch⟩ := SH.cells hh; have HB := Aside0.mk (below_step HB.out hb); obtain ⟨p, hp, hc⟩ := hcl e (Nat.le_refl _); have HC1 := Aside0.mk (fun o => cell_below hc (below_alloc (Below.refl w5.heap.size w5) o)); have HC2 := Aside0.mk (fun (j : Nat) (hj : j ≤ 60) o => cell_below ((SL.at_ e p hp j hj).1.trans (congrArg (fun x => some (Value.int .i64 x)) (HTV.out Ll j hj TL))) (below_alloc (Below.refl w5.heap.size w5) o)); clear hc hp; clear hcl hch SL SH hl hh TL TH hb hx0 hx1 hx2))
    go_loopg [9] 61 (fun gg v9 wr => ∃ r : Nat, r ≤ 60 ∧ 60 - r ≤ gg ∧ v9 = .int .i64 r ∧ Aside0 (rF a0_0 a0_1 a0_2 e a2 (60 - r) r = rF a0_0 a0_1 a0_2 e a2 60 0) ∧ Aside0 (wr.cell? ⟨w5.heap.size, 3, none⟩ = some (.slice (some ⟨gl, 0, none⟩) (e + 1) cl)) ∧ Aside0 (wr.cell? ⟨gl, e, none⟩ = some (.slice (some ⟨p.1, 0, none⟩) (60 + 1) p.2)) ∧ Aside0 (∀ j : Nat, j ≤ 60 → wr.cell? ⟨p.1, j, none⟩ = some (.int .i64 (cst a0_0 a0_1 a0_2 e j 0))) ∧ Aside0 (Below w.heap.size w wr))
    case atStart => exact ⟨0, by omega, by omega, rfl, ⟨rfl⟩, ⟨(blk_cell (blk_new _ _) 3).trans rfl⟩, ⟨HC1.out _⟩, ⟨fun j hj => HC2.out j hj _⟩, ⟨by (repeat (first | (with_reducible first | exact HB.out | apply below_alloc | apply pw_below_drewN | apply below_drew1) | exact HB.out))⟩⟩
    case round =>
      clear HC1 HC2 HB
      obtain ⟨r, hr1, hgg, rfl, HE, HK, HC1, HC2, HB⟩ := hrel
      have hk3 := HK.out
      have hk4 := HC1.out
      by_cases hlt : r < 60
      · have hltz : (r : Int) < 60 := by omega
        have hlt1 : (r : Int) + 1 < 60 + 1 := by omega
        have hlt2 : (0 : Int) ≤ (r : Int) + 1 := by omega
        have hlt3 : ((r : Int) + 1).toNat = r + 1 := by omega
        have hlt4 : (r : Int) + 1 < 61 := by omega
        have hw1 : IntKind.i64.wrap ((r : Int) + 1) = (r : Int) + 1 := by rw [i64_w]; unfold wrap64; omega
        have hk5 := HC2.out (r + 1) (by omega)
        have HE2 := HE.out
        rw [show 60 - r = (60 - (r + 1)) + 1 by omega, rF_step] at HE2
        by_cases hc : cst a0_0 a0_1 a0_2 e (r + 1) 0 ≤ a2
        · rw [if_pos hc] at HE2
          have HE3 := Aside0.mk HE2
          clear HE2
          go_wp2
          go_roundg (60 - (r + 1))
          case measure => omega
          case rel => exact ⟨r + 1, by omega, by omega, by go_num, HE3, HK, HC1, HC2, HB⟩
        · rw [if_neg hc] at HE2
          have HF := Aside0.mk HE2
          clear HE2
          go_wp2
          go_ret2
          exact ⟨by rw [← HR1.out, ← HF.out]; rfl, HB.out⟩
      · have hltz : ¬ (r : Int) < 60 := by omega
        obtain rfl : r = 60 := by omega
        have HF : Aside0 (60 = rF a0_0 a0_1 a0_2 e a2 60 0) := ⟨HE.out⟩
        go_wp2
        go_ret2
        exact ⟨by rw [← HR1.out, ← HF.out]; rfl, HB.out⟩

end Go.Proofs.Ytkbmefmnfoalhaa.PrintC
