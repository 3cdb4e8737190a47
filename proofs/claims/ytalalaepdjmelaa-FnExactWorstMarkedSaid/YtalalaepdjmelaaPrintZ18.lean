-- written by this session's own driver (wip/gen.py) with the kit's print and contracts of our own
import Derived.Test.YtalalaepdjmelaaPrintZ0
import Derived.Test.YtalalaepdjmelaaPrintZ9
import Derived.Test.YtalalaepdjmelaaPrintZ10
import Derived.Test.YtalalaepdjmelaaPrintZ17
namespace Go.Proofs.Ytalalaepdjmelaa.PrintZ
open Go.RowKit Go.Proofs.YtalalaepdjmelaaLib Go.Proofs.YtalalaepdjmelaaW.PrintWords Go.Proofs.YtalalaepdjmelaaW.PrintLast Go.Proofs.YtalalaepdjmelaaW.PrintMore
attribute [local go_sem] max2_int min2_int max_two min_two max_three min_three max_four min_four   -- for this text's walks alone
set_option linter.unusedVariables false
set_option linter.unusedSimpArgs false

/-! ### impl_WorstMarked: function 16, a contract of our own -/
/-- How many drops marks need for a break. -/
def mkN (k : Nat) (a : Int) (l : List Int) (b : Int) : Int := match impl_markDrops.f k a l b with
  | some r => (r.length : Int)
  | none => 0
def mkOk (k : Nat) (a : Int) (l : List Int) : Prop := ∀ b : Int, 0 ≤ b → b ≤ a → ∃ r, impl_markDrops.f k a l b = some r ∧ r.length ≤ 1000
def mkOkB (k : Nat) (a : Int) (l : List Int) : Bool := (List.range (a.toNat + 1)).all fun b => match impl_markDrops.f k a l (b : Int) with
  | some r => decide (r.length ≤ 1000)
  | none => false
theorem mkOkB_ok (k : Nat) (a : Int) (l : List Int) (h : mkOkB k a l = true) (ha : 0 ≤ a) : mkOk k a l := by
  intro b h0 hb
  unfold mkOkB at h
  rw [List.all_eq_true] at h
  have h1 := h b.toNat (List.mem_range.2 (by omega))
  rw [show ((b.toNat : Nat) : Int) = b by omega] at h1
  cases hq : impl_markDrops.f k a l b with
  | none => rw [hq] at h1; cases h1
  | some r => rw [hq] at h1; exact ⟨r, rfl, by simpa using h1⟩
theorem mkOkB_of (k : Nat) (a : Int) (l : List Int) (h : mkOk k a l) (ha : 0 ≤ a) : mkOkB k a l = true := by
  unfold mkOkB
  rw [List.all_eq_true]
  intro b hb
  rw [List.mem_range] at hb
  obtain ⟨r, hr, hl⟩ := h b (by omega) (by omega)
  rw [hr]; simpa using hl
set_option maxHeartbeats 4000000 in
set_option maxRecDepth 100000 in
theorem worstMarked_1 (k g2 g3 : Nat) (a : Int) (A1 : Option Addr) (c1 : Nat) (l : List Int) (b : Int) (W : World) (hb0 : 0 ≤ b) (hba : b ≤ a) (hok : mkOk k a l)
    (h2 : W.heap[g2]? = some (.cells #[.int .i64 a] 3 (0, 0))) (h3 : W.heap[g3]? = some (.cells #[.slice A1 l.length c1] 22 (0, 0))) (hc : l.length ≤ c1) (hC : Kd.C (Kd.int .i64) W A1 l.length l) :
    Calls Try.prog 38 #[.int .i64 b, .pointer (some ⟨g2, 0, none⟩), .pointer (some ⟨g3, 0, none⟩)] W fun e' w' => e' = .returned (.int .i64 (mkN k a l b)) ∧ Below W.heap.size W w' := by
  obtain ⟨r, hr, hrl⟩ := hok b hb0 hba
  have hm : mkN k a l b = (r.length : Int) := by unfold mkN; rw [hr]
  rw [hm]
  have HP := Aside0.mk (impl_markDrops.calls k a A1 c1 l b r W hC hc hr)
  have hx2 : W.cell? ⟨g2, 0, none⟩ = some (.int .i64 a) := (blk_cell h2 0).trans rfl
  have hx3 : W.cell? ⟨g3, 0, none⟩ = some (.slice A1 l.length c1) := (blk_cell h3 0).trans rfl
  clear hok hr hm h2 h3 hc hC hb0 hba
  go_enter Try.func38, Try.ntmps38
  go_wp2_with (go_at_call 39; refine (HP.out).mono ?_; rintro e w' ⟨v, rfl, hr, hb⟩; have HB := Aside0.mk hb; obtain ⟨A_, c_, hv_⟩ := Kd.R_slice hr; subst hv_; clear hr hb)
  go_ret
  exact ⟨rfl, HB.out⟩
def impl_WorstMarked.f (k : Nat) (a0 : Int) (l1 : List Int) : Option ((List Int) × Bool) := (impl_AreMarks.f k a0 l1).bind fun t => if t = true then (if mkOkB k a0 l1 = true ∧ 0 ≤ a0 ∧ a0 ≤ 1000 then some (greatL (mkN k a0 l1) a0 (a0 + 1).toNat 0 [] (-1), true) else none) else some ([], false)
set_option maxHeartbeats 4000000 in
set_option maxRecDepth 100000 in
theorem impl_WorstMarked.calls (k : Nat) (a0 : Int) (A1 : Option Addr) (c1 : Nat) (l1 : List Int) (r1 : List Int) (r2 : Bool) (w : World) (hr1 : Kd.C (Kd.int .i64) w A1 l1.length l1) (hc1 : l1.length ≤ c1) (h : impl_WorstMarked.f k a0 l1 = some (r1, r2)) :
    Calls Try.prog 16 #[.int .i64 a0, .slice A1 l1.length c1] w fun e w' => ∃ v0_ : Value, e = .returned (.tuple #[v0_, .bool r2]) ∧ Kd.R (Kd.int .i64) 3 w' w.heap.size (fun _ => True) v0_ r1 ∧ Below w.heap.size w w' := by
  unfold impl_WorstMarked.f at h
  obtain ⟨t, ht, h⟩ := Option.bind_eq_some_iff.mp h
  have HW := Aside0.mk (fun W (hb : Below w.heap.size w W) => impl_AreMarks.calls k a0 A1 c1 l1 t W (Kd.C_below hr1 hb) hc1 ht)
  have HB := Aside0.mk (Below.refl w.heap.size w)
  cases t with
  | true =>
    rw [if_pos rfl] at h
    by_cases hok : mkOkB k a0 l1 = true ∧ 0 ≤ a0 ∧ a0 ≤ 1000
    · rw [if_pos hok] at h
      obtain ⟨hq1, rfl⟩ := Prod.mk.inj (Option.some.inj h)
      have HQ := Aside0.mk hq1
      obtain ⟨hokB, ha, hb⟩ := hok
      have hok := mkOkB_ok k a0 l1 hokB ha
      clear hokB
      have HP : Aside0 (∀ (g2 g3 : Nat) (W : World), W.heap[g2]? = some (.cells #[.int .i64 a0] 3 (0, 0)) → W.heap[g3]? = some (.cells #[.slice A1 l1.length c1] 22 (0, 0)) → Below w.heap.size w W →
          Calls Try.prog 37 #[.int .i64 a0, .func (.func 38) #[] #[.pointer (some ⟨g2, 0, none⟩), .pointer (some ⟨g3, 0, none⟩)]] W fun e' w' => ∃ v, e' = .returned v ∧ Kd.R (Kd.int .i64) 3 w' W.heap.size (fun _ => True) v r1 ∧ Below W.heap.size W w') :=
        ⟨fun g2 g3 W h2 h3 hB => by
          have := greatest_calls 38 #[] #[.pointer (some ⟨g2, 0, none⟩), .pointer (some ⟨g3, 0, none⟩)] (mkN k a0 l1) a0 W ha hb (enters_ Try.func38 (by kernel_rfl) rfl)
            (fun W2 b hW h1 h2' => worstMarked_1 k g2 g3 a0 A1 c1 l1 b W2 h1 h2' hok (blk_below h2 hW) (blk_below h3 hW) hc1 (Kd.C_below hr1 (below_step hB hW)))
          rw [← HQ.out]; simpa using this⟩
      clear h hq1 ha hb hok ht hr1 hc1
      go_enter Try.func16, Try.ntmps16
      go_wp2_with (first
        | ((with_reducible refine gate_dst (N := 2) rfl ?_); refine box_event ?hg (N := 2) ?hd (cs := #[.int .i64 a0]) (t := 3) ?hr ?_; (case hd => rfl); (case hg => rfl); (case hr => first | (go_simp; done) | (go_simp; rfl)); intro g2 hg w2 hbox hb; have HB := Aside0.mk (below_step HB.out hb); have K2 := Aside0.mk hbox; have hx2 : w2.cell? ⟨g2, 0, none⟩ = some (.int .i64 a0) := (blk_cell K2.out 0).trans rfl; clear hg hbox hb)
        | ((with_reducible refine gate_dst (N := 3) rfl ?_); refine box_event ?hg (N := 3) ?hd (cs := #[.slice A1 l1.length c1]) (t := 22) ?hr ?_; (case hd => rfl); (case hg => rfl); (case hr => first | (go_simp; done) | (go_simp; rfl)); intro g3 hg w3 hbox hb; have HB := Aside0.mk (below_step HB.out hb); have K2 := Aside0.mk (blk_below K2.out hb); have K3 := Aside0.mk hbox; clear hx2; have hx2 : w3.cell? ⟨g2, 0, none⟩ = some (.int .i64 a0) := (blk_cell K2.out 0).trans rfl; have hx3 : w3.cell? ⟨g3, 0, none⟩ = some (.slice A1 l1.length c1) := (blk_cell K3.out 0).trans rfl; clear hg hbox hb)
        | (go_at_call 32; refine (HW.out _ HB.out).mono ?_; rintro e w' ⟨rfl, ⟨nd, rfl⟩⟩; have hbd := pw_below_drewN (Below.refl w3.heap.size w3) nd; have HB := Aside0.mk (below_step HB.out hbd); have K2 := Aside0.mk (blk_below K2.out hbd); have K3 := Aside0.mk (blk_below K3.out hbd); clear hx2 hx3; have hx2 : (w3.drewN nd).cell? ⟨g2, 0, none⟩ = some (.int .i64 a0) := (blk_cell K2.out 0).trans rfl; clear hbd)
        | (go_at_call 37; refine (HP.out _ _ _ K2.out K3.out HB.out).mono ?_; rintro e w' ⟨v, rfl, hr, hb⟩; have HO := Aside0.mk (Kd.R_lower hr (below_size HB.out)); have HB := Aside0.mk (below_step HB.out hb); clear hr hb))
      go_ret2
      exact ⟨_, rfl, HO.out, HB.out⟩
    · rw [if_neg hok] at h; cases h
  | false =>
    rw [if_neg (by decide)] at h
    obtain ⟨rfl, rfl⟩ := Prod.mk.inj (Option.some.inj h)
    clear h ht hr1 hc1
    go_enter Try.func16, Try.ntmps16
    go_wp2_with (first
      | ((with_reducible refine gate_dst (N := 2) rfl ?_); refine box_event ?hg (N := 2) ?hd (cs := #[.int .i64 a0]) (t := 3) ?hr ?_; (case hd => rfl); (case hg => rfl); (case hr => first | (go_simp; done) | (go_simp; rfl)); intro g2 hg w2 hbox hb; have HB := Aside0.mk (below_step HB.out hb); have K2 := Aside0.mk hbox; have hx2 : w2.cell? ⟨g2, 0, none⟩ = some (.int .i64 a0) := (blk_cell K2.out 0).trans rfl; clear hg hbox hb)
      | ((with_reducible refine gate_dst (N := 3) rfl ?_); refine box_event ?hg (N := 3) ?hd (cs := #[.slice A1 l1.length c1]) (t := 22) ?hr ?_; (case hd => rfl); (case hg => rfl); (case hr => first | (go_simp; done) | (go_simp; rfl)); intro g3 hg w3 hbox hb; have HB := Aside0.mk (below_step HB.out hb); have K2 := Aside0.mk (blk_below K2.out hb); have K3 := Aside0.mk hbox; clear hx2; have hx2 : w3.cell? ⟨g2, 0, none⟩ = some (.int .i64 a0) := (blk_cell K2.out 0).trans rfl; have hx3 : w3.cell? ⟨g3, 0, none⟩ = some (.slice A1 l1.length c1) := (blk_cell K3.out 0).trans rfl; clear hg hbox hb)
      | (go_at_call 32; refine (HW.out _ HB.out).mono ?_; rintro e w' ⟨rfl, ⟨nd, rfl⟩⟩; have HB := Aside0.mk (pw_below_drewN HB.out nd); clear hx2 hx3))
    go_ret2
    exact ⟨_, rfl, Kd.R_nil _ _ _ _ _, HB.out⟩


end Go.Proofs.Ytalalaepdjmelaa.PrintZ
