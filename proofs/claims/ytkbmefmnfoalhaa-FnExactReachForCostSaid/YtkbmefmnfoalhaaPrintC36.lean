-- written by this session's own driver (wip/gen.py) with the kit's print and contracts of our own
import Derived.Test.YtkbmefmnfoalhaaPrintC0
import Derived.Test.YtkbmefmnfoalhaaPrintC1
import Derived.Test.YtkbmefmnfoalhaaPrintC13
import Derived.Test.YtkbmefmnfoalhaaPrintC15
import Derived.Test.YtkbmefmnfoalhaaPrintC21
import Derived.Test.YtkbmefmnfoalhaaPrintC35
namespace Go.Proofs.Ytkbmefmnfoalhaa.PrintC
open Go.RowKit Go.Proofs.YtkbmefmnfoalhaaLib Go.Proofs.YtkbmefmnfoalhaaW.PrintWords Go.Proofs.YtkbmefmnfoalhaaW.PrintLast Go.Proofs.YtkbmefmnfoalhaaW.PrintMore
attribute [local go_sem] max2_int min2_int max_two min_two max_three min_three max_four min_four   -- for this text's walks alone
set_option linter.unusedVariables false
set_option linter.unusedSimpArgs false

/-! ### impl_ReachForCost: function 17, a contract of our own -/
theorem idxOf_range {α : Type} (p : α → Bool) (l : List α) : -1 ≤ idxOf p l ∧ idxOf p l ≤ l.length := by
  unfold idxOf
  cases h : l.findIdx? p with
  | none => simp
  | some i =>
    rw [List.findIdx?_eq_some_iff_getElem] at h
    obtain ⟨hi, _⟩ := h
    simp; omega
/-- The floors up to which the cost is not too great, by the first one above. -/
def rI (E T C : Int) (e : Nat) (c : Int) : Int := if idxOf (fun x : Int => decide (c < x)) (tabI E T C e 61) < 0 then 60 else idxOf (fun x : Int => decide (c < x)) (tabI E T C e 61) - 1
set_option maxHeartbeats 4000000 in
set_option maxRecDepth 100000 in
theorem reach_1 (g5 : Nat) (c x : Int) (W : World) (h5 : W.heap[g5]? = some (.cells #[.int .i64 c] 3 (0, 0))) :
    Calls Try.prog 33 #[.int .i64 x, .pointer (some ⟨g5, 0, none⟩)] W fun e' w' => e' = .returned (.bool (decide (c < x))) ∧ Below W.heap.size W w' := by
  have hx5 : W.cell? ⟨g5, 0, none⟩ = some (.int .i64 c) := (blk_cell h5 0).trans rfl
  clear h5
  go_enter Try.func33, Try.ntmps33
  go_wp2
  go_ret
  exact ⟨rfl, Below.refl _ _⟩
def impl_ReachForCost.f (a0_0 a0_1 a0_2 a1 a2 : Int) : Option (Int × Bool) := (impl_isCostly.f a0_0 a0_1 a0_2 a1 0).bind fun t => if t = true then (if 0 ≤ a2 ∧ a2 ≤ 1000000000 then some (rI a0_0 a0_1 a0_2 a1.toNat a2, true) else some (0, false)) else some (0, false)
set_option maxHeartbeats 8000000 in
set_option maxRecDepth 100000 in
theorem impl_ReachForCost.calls (a0_0 a0_1 a0_2 a1 a2 : Int) (r1 : Int) (r2 : Bool) (w : World) (h : impl_ReachForCost.f a0_0 a0_1 a0_2 a1 a2 = some (r1, r2)) :
    Calls Try.prog 17 #[.agg #[.int .i64 a0_0, .int .i64 a0_1, .int .i64 a0_2], .int .i64 a1, .int .i64 a2] w fun e w' => e = .returned (.tuple #[.int .i64 r1, .bool r2]) ∧ Below w.heap.size w w' := by
  unfold impl_ReachForCost.f at h
  obtain ⟨t, ht, h⟩ := Option.bind_eq_some_iff.mp h
  have HW := Aside0.mk (fun W => impl_isCostly.calls a0_0 a0_1 a0_2 a1 0 t W ht)
  have HB := Aside0.mk (Below.refl w.heap.size w)
  cases t with
  | false =>
    rw [if_neg (by decide)] at h
    obtain ⟨rfl, rfl⟩ := Prod.mk.inj (Option.some.inj h)
    clear h ht
    go_enter Try.func17, Try.ntmps17
    go_wp2_with (first
      | ((with_reducible refine gate_dst (N := 3) rfl ?_); refine box_event ?hg (N := 3) ?hd (cs := #[.int .i64 a0_0, .int .i64 a0_1, .int .i64 a0_2]) (t := 28) ?hr ?_; (case hd => rfl); (case hg => rfl); (case hr => first | (go_simp; done) | (go_simp; rfl)); intro g3 hg w3 hbox hb; have HB := Aside0.mk (below_step HB.out hb); have K3 := Aside0.mk hbox; have hx0 : w3.cell? ⟨g3, 0, none⟩ = some (.int .i64 a0_0) := (blk_cell hbox 0).trans rfl; have hx1 : w3.cell? ⟨g3, 1, none⟩ = some (.int .i64 a0_1) := (blk_cell hbox 1).trans rfl; have hx2 : w3.cell? ⟨g3, 2, none⟩ = some (.int .i64 a0_2) := (blk_cell hbox 2).trans rfl; clear hg hbox hb) | ((with_reducible refine gate_dst (N := 5) rfl ?_); refine box_event ?hg (N := 5) ?hd (cs := #[.int .i64 a2]) (t := 3) ?hr ?_; (case hd => rfl); (case hg => rfl); (case hr => first | (go_simp; done) | (go_simp; rfl)); intro g5 hg wb hbox hb; have HB := Aside0.mk (below_step HB.out hb); have K3 := Aside0.mk (blk_below K3.out hb); have K5 := Aside0.mk hbox; clear hx0 hx1 hx2; have hx0 : wb.cell? ⟨g3, 0, none⟩ = some (.int .i64 a0_0) := (blk_cell K3.out 0).trans rfl; have hx1 : wb.cell? ⟨g3, 1, none⟩ = some (.int .i64 a0_1) := (blk_cell K3.out 1).trans rfl; have hx2 : wb.cell? ⟨g3, 2, none⟩ = some (.int .i64 a0_2) := (blk_cell K3.out 2).trans rfl; have hx5 : wb.cell? ⟨g5, 0, none⟩ = some (.int .i64 a2) := (blk_cell K5.out 0).trans rfl; clear hg hbox hb)
      | (go_at_call 27; refine (HW.out _).mono ?_; rintro e_ w4 ⟨rfl, hb⟩; have HB := Aside0.mk (below_step HB.out hb); have K3 := Aside0.mk (blk_below K3.out hb); have K5 := Aside0.mk (blk_below K5.out hb); clear hx0 hx1 hx2 hx5; have hx0 : w4.cell? ⟨g3, 0, none⟩ = some (.int .i64 a0_0) := (blk_cell K3.out 0).trans rfl; have hx1 : w4.cell? ⟨g3, 1, none⟩ = some (.int .i64 a0_1) := (blk_cell K3.out 1).trans rfl; have hx2 : w4.cell? ⟨g3, 2, none⟩ = some (.int .i64 a0_2) := (blk_cell K3.out 2).trans rfl; have hx5 : w4.cell? ⟨g5, 0, none⟩ = some (.int .i64 a2) := (blk_cell K5.out 0).trans rfl; clear hb))
    go_ret2
    exact ⟨rfl, HB.out⟩
  | true =>
    rw [if_pos rfl] at h
    obtain ⟨⟨⟨p0, p1⟩, ⟨p2, p3⟩, ⟨p4, p5⟩⟩, ⟨ha, hb⟩, ⟨hc, hd⟩⟩ := costly_true ht
    have HPR := Aside0.mk (show Prs a0_0 a0_1 a0_2 from ⟨p0, p1, p2, p3, p4, p5⟩)
    have HIN := fun W => impl_within.calls0 a2 0 1000000000 _ W (impl_within_is a2 0 1000000000)
    obtain ⟨e, rfl⟩ : ∃ m : Nat, a1 = m := ⟨a1.toNat, by omega⟩
    rw [Int.toNat_natCast] at h
    by_cases hq : 0 ≤ a2 ∧ a2 ≤ 1000000000
    case neg =>
      rw [if_neg hq] at h
      obtain ⟨rfl, rfl⟩ := Prod.mk.inj (Option.some.inj h)
      have hqd : (decide (0 ≤ a2) && decide (a2 ≤ 1000000000)) = false := by simp only [Bool.and_eq_false_iff, decide_eq_false_iff_not]; omega
      rw [hqd] at HIN
      have HIN := Aside0.mk HIN
      clear h ht p0 p1 p2 p3 p4 p5 hqd hq ha hb hc hd
      go_enter Try.func17, Try.ntmps17
      go_wp2_with (first
        | ((with_reducible refine gate_dst (N := 3) rfl ?_); refine box_event ?hg (N := 3) ?hd (cs := #[.int .i64 a0_0, .int .i64 a0_1, .int .i64 a0_2]) (t := 28) ?hr ?_; (case hd => rfl); (case hg => rfl); (case hr => first | (go_simp; done) | (go_simp; rfl)); intro g3 hg w3 hbox hb; have HB := Aside0.mk (below_step HB.out hb); have K3 := Aside0.mk hbox; have hx0 : w3.cell? ⟨g3, 0, none⟩ = some (.int .i64 a0_0) := (blk_cell hbox 0).trans rfl; have hx1 : w3.cell? ⟨g3, 1, none⟩ = some (.int .i64 a0_1) := (blk_cell hbox 1).trans rfl; have hx2 : w3.cell? ⟨g3, 2, none⟩ = some (.int .i64 a0_2) := (blk_cell hbox 2).trans rfl; clear hg hbox hb) | ((with_reducible refine gate_dst (N := 5) rfl ?_); refine box_event ?hg (N := 5) ?hd (cs := #[.int .i64 a2]) (t := 3) ?hr ?_; (case hd => rfl); (case hg => rfl); (case hr => first | (go_simp; done) | (go_simp; rfl)); intro g5 hg wb hbox hb; have HB := Aside0.mk (below_step HB.out hb); have K3 := Aside0.mk (blk_below K3.out hb); have K5 := Aside0.mk hbox; clear hx0 hx1 hx2; have hx0 : wb.cell? ⟨g3, 0, none⟩ = some (.int .i64 a0_0) := (blk_cell K3.out 0).trans rfl; have hx1 : wb.cell? ⟨g3, 1, none⟩ = some (.int .i64 a0_1) := (blk_cell K3.out 1).trans rfl; have hx2 : wb.cell? ⟨g3, 2, none⟩ = some (.int .i64 a0_2) := (blk_cell K3.out 2).trans rfl; have hx5 : wb.cell? ⟨g5, 0, none⟩ = some (.int .i64 a2) := (blk_cell K5.out 0).trans rfl; clear hg hbox hb)
        | (go_at_call 27; refine (HW.out _).mono ?_; rintro e_ w4 ⟨rfl, hb⟩; have HB := Aside0.mk (below_step HB.out hb); have K3 := Aside0.mk (blk_below K3.out hb); have K5 := Aside0.mk (blk_below K5.out hb); clear hx0 hx1 hx2 hx5; have hx0 : w4.cell? ⟨g3, 0, none⟩ = some (.int .i64 a0_0) := (blk_cell K3.out 0).trans rfl; have hx1 : w4.cell? ⟨g3, 1, none⟩ = some (.int .i64 a0_1) := (blk_cell K3.out 1).trans rfl; have hx2 : w4.cell? ⟨g3, 2, none⟩ = some (.int .i64 a0_2) := (blk_cell K3.out 2).trans rfl; have hx5 : w4.cell? ⟨g5, 0, none⟩ = some (.int .i64 a2) := (blk_cell K5.out 0).trans rfl; clear hb)
        | (go_at_call 30; refine (HIN.out _).mono ?_; rintro e_ w_ ⟨rfl, rfl⟩))
      go_ret2
      exact ⟨rfl, HB.out⟩
    rw [if_pos hq] at h
    obtain ⟨hr1, rfl⟩ := Prod.mk.inj (Option.some.inj h)
    have hqd : (decide (0 ≤ a2) && decide (a2 ≤ 1000000000)) = true := by simp [hq]
    rw [hqd] at HIN
    have HIN := Aside0.mk HIN
    have HN1 : Aside0 (e ≤ 10) := ⟨by omega⟩
    have HN2 : Aside0 ((60 : Nat) ≤ 60) := ⟨by omega⟩
    clear h ht p0 p1 p2 p3 p4 p5 hqd
    unfold rI at hr1
    have HRG := idxOf_range (fun x : Int => decide (a2 < x)) (tabI a0_0 a0_1 a0_2 e 61)
    have HEG := Aside0.mk (enters_ Try.func33 (by kernel_rfl) rfl)
    have HLEN : Aside0 ((tabI a0_0 a0_1 a0_2 e 61).length ≤ 1000000000) := ⟨by rw [tabI_len]; omega⟩
    have HTB := Aside0.mk (fun W => table_calls a0_0 a0_1 a0_2 e 60 W HN1.out HN2.out HPR.out)
    rw [tabI_len] at HRG
    have HIX := Aside0.mk (fun (g5 : Nat) A c (W : World) (hC : Kd.C (Kd.int .i64) W A (tabI a0_0 a0_1 a0_2 e 61).length (tabI a0_0 a0_1 a0_2 e 61)) (h5 : W.heap[g5]? = some (.cells #[.int .i64 a2] 3 (0, 0))) => indexFunc_int 33 #[.pointer (some ⟨g5, 0, none⟩)] (fun x : Int => decide (a2 < x)) A c _ W hC HLEN.out HEG.out (fun W2 x hW => (show Calls Try.prog 33 #[.int .i64 x, .pointer (some ⟨g5, 0, none⟩)] W2 _ from (reach_1 g5 a2 x W2 (blk_below h5 hW)).mono (fun e' w' hh => ⟨hh.1, below_step hW hh.2⟩))))
    rw [show 60 + 1 = 61 from rfl] at HTB
    generalize idxOf (fun x : Int => decide (a2 < x)) (tabI a0_0 a0_1 a0_2 e 61) = q at hr1 HRG HIX
    generalize tabI a0_0 a0_1 a0_2 e 61 = TI at HTB HLEN HIX
    have HR1 := Aside0.mk hr1
    obtain ⟨hq1, hq2⟩ := HRG
    have hw1 : IntKind.i64.wrap (q - 1) = q - 1 := by rw [i64_w]; unfold wrap64; omega
    clear hr1 ha hb hc hd hq hq1 hq2
    by_cases hqn : q < 0
    all_goals
      go_enter Try.func17, Try.ntmps17
      go_wp2_with (first
      | ((with_reducible refine gate_dst (N := 3) rfl ?_); refine box_event ?hg (N := 3) ?hd (cs := #[.int .i64 a0_0, .int .i64 a0_1, .int .i64 a0_2]) (t := 28) ?hr ?_; (case hd => rfl); (case hg => rfl); (case hr => first | (go_simp; done) | (go_simp; rfl)); intro g3 hg w3 hbox hb; have HB := Aside0.mk (below_step HB.out hb); have K3 := Aside0.mk hbox; have hx0 : w3.cell? ⟨g3, 0, none⟩ = some (.int .i64 a0_0) := (blk_cell hbox 0).trans rfl; have hx1 : w3.cell? ⟨g3, 1, none⟩ = some (.int .i64 a0_1) := (blk_cell hbox 1).trans rfl; have hx2 : w3.cell? ⟨g3, 2, none⟩ = some (.int .i64 a0_2) := (blk_cell hbox 2).trans rfl; clear hg hbox hb) | ((with_reducible refine gate_dst (N := 5) rfl ?_); refine box_event ?hg (N := 5) ?hd (cs := #[.int .i64 a2]) (t := 3) ?hr ?_; (case hd => rfl); (case hg => rfl); (case hr => first | (go_simp; done) | (go_simp; rfl)); intro g5 hg wb hbox hb; have HB := Aside0.mk (below_step HB.out hb); have K3 := Aside0.mk (blk_below K3.out hb); have K5 := Aside0.mk hbox; clear hx0 hx1 hx2; have hx0 : wb.cell? ⟨g3, 0, none⟩ = some (.int .i64 a0_0) := (blk_cell K3.out 0).trans rfl; have hx1 : wb.cell? ⟨g3, 1, none⟩ = some (.int .i64 a0_1) := (blk_cell K3.out 1).trans rfl; have hx2 : wb.cell? ⟨g3, 2, none⟩ = some (.int .i64 a0_2) := (blk_cell K3.out 2).trans rfl; have hx5 : wb.cell? ⟨g5, 0, none⟩ = some (.int .i64 a2) := (blk_cell K5.out 0).trans rfl; clear hg hbox hb)
      | (go_at_call 27; refine (HW.out _).mono ?_; rintro e_ w4 ⟨rfl, hb⟩; have HB := Aside0.mk (below_step HB.out hb); have K3 := Aside0.mk (blk_below K3.out hb); have K5 := Aside0.mk (blk_below K5.out hb); clear hx0 hx1 hx2 hx5; have hx0 : w4.cell? ⟨g3, 0, none⟩ = some (.int .i64 a0_0) := (blk_cell K3.out 0).trans rfl; have hx1 : w4.cell? ⟨g3, 1, none⟩ = some (.int .i64 a0_1) := (blk_cell K3.out 1).trans rfl; have hx2 : w4.cell? ⟨g3, 2, none⟩ = some (.int .i64 a0_2) := (blk_cell K3.out 2).trans rfl; have hx5 : w4.cell? ⟨g5, 0, none⟩ = some (.int .i64 a2) := (blk_cell K5.out 0).trans rfl; clear hb)
      | (go_at_call 30; refine (HIN.out _).mono ?_; rintro e_ w_ ⟨rfl, rfl⟩)
      | (go_at_call 32; refine (HTB.out _).mono ?_; rintro e_ w6 ⟨v, rfl, hr, hb⟩; obtain ⟨A_, c_, hv_⟩ := Kd.R_slice hr; subst hv_; have HR6 := Aside0.mk (Kd.R_reads' hr).2.2; have HB := Aside0.mk (below_step HB.out hb); have K5 := Aside0.mk (blk_below K5.out hb); clear hr hb hx0 hx1 hx2 hx5)
      | (go_at_call 31; refine (HIX.out g5 A_ c_ _ HR6.out K5.out).mono ?_; rintro e_ w7 ⟨rfl, hb⟩; have HB := Aside0.mk (below_step HB.out hb); clear hb))
      go_ret2
      exact ⟨by rw [← HR1.out]; (first | rw [if_pos hqn] | rw [if_neg (by omega)]); rfl, HB.out⟩


end Go.Proofs.Ytkbmefmnfoalhaa.PrintC
