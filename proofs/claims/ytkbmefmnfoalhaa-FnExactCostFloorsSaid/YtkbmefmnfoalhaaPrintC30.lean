-- written by this session's own driver (wip/gen.py) with the kit's print and contracts of our own
import Derived.Test.YtkbmefmnfoalhaaPrintC0
import Derived.Test.YtkbmefmnfoalhaaPrintC6
import Derived.Test.YtkbmefmnfoalhaaPrintC9
import Derived.Test.YtkbmefmnfoalhaaPrintC10
import Derived.Test.YtkbmefmnfoalhaaPrintC11
import Derived.Test.YtkbmefmnfoalhaaPrintC29
namespace Go.Proofs.Ytkbmefmnfoalhaa.PrintC
open Go.RowKit Go.Proofs.YtkbmefmnfoalhaaLib Go.Proofs.YtkbmefmnfoalhaaW.PrintWords Go.Proofs.YtkbmefmnfoalhaaW.PrintLast Go.Proofs.YtkbmefmnfoalhaaW.PrintMore
attribute [local go_sem] max2_int min2_int max_two min_two max_three min_three max_four min_four   -- for this text's walks alone
set_option linter.unusedVariables false
set_option linter.unusedSimpArgs false

/-! ### spec_CostFloors: function 23, a contract of our own -/
def spec_CostFloors.f (k : Nat) (a0_0 a0_1 a0_2 a1 a2 : Int) : Option ((List Int) × Bool) := (spec_csAsked.f k a0_0 a0_1 a0_2 a1 a2).bind fun t => if t = true then some (flS a0_0 a0_1 a0_2 a1.toNat a2.toNat a2.toNat, true) else some ([], false)
theorem spec_CostFloors.mono : ∀ a0_0 a0_1 a0_2 a1 a2 k, LeO (spec_CostFloors.f k a0_0 a0_1 a0_2 a1 a2) (spec_CostFloors.f (k + 1) a0_0 a0_1 a0_2 a1 a2) := by
  intro a0_0 a0_1 a0_2 a1 a2 k
  unfold spec_CostFloors.f
  exact LeO.bind (spec_csAsked.mono _ _ _ _ _ k) (fun t => LeO.refl _)
theorem TV.knows2 {Ll Lh : Nat → List Int} {E T C : Int} {ne nf : Nat} (hl : TV Ll E T C ne nf 0 (ne + 1) 1) (hh : TV Lh E T C ne nf 1 (ne + 1) 1) (e n : Nat) (he : 1 ≤ e) (hne : e ≤ ne) (hn : n ≤ nf) : Knows E T C (fun e j => rd (Ll e) (j : Int)) (fun e j => rd (Lh e) (j : Int)) e n := by
  refine ⟨fun f hf hfn hcan => ?_, fun f hf hfn => ?_⟩
  · show rd (Lh (e - 1)) ((f - 1 : Nat) : Int) = _
    rw [hh.v (e - 1) (f - 1) (by omega) (by omega)]
    unfold tv
    by_cases h0 : e - 1 = 0
    · rw [if_pos h0]
      have : f - 1 = 0 := by omega
      rw [this, cst_zero]
    · rw [if_neg h0, if_pos (by omega)]
  · show rd (Ll e) ((n - f : Nat) : Int) = _
    rw [hl.v e (n - f) (by omega) (by omega)]
    unfold tv
    rw [if_neg (by omega), if_pos (by omega)]
theorem sides_rd {W : World} {base ne nf gl cl gh ch g t : Nat} {E T C : Int} {Rl Rh : List (Nat × Nat)} {Ll Lh : Nat → List Int} (SL : Side W base nf (.slice (some ⟨gl, 0, none⟩) (ne + 1) cl) Rl Ll) (SH : Side W base nf (.slice (some ⟨gh, 0, none⟩) (ne + 1) ch) Rh Lh) (hl : Rl.length = ne + 1) (hh : Rh.length = ne + 1)
    (tb : W.heap[g]? = some (.cells #[.int .i64 E, .int .i64 T, .int .i64 C, .slice (some ⟨gl, 0, none⟩) (ne + 1) cl, .slice (some ⟨gh, 0, none⟩) (ne + 1) ch] t (0, 0))) :
    RD W g gl cl gh ch ne nf (fun e => (Rl.getD e (0, 0)).1) (fun e => (Rl.getD e (0, 0)).2) (fun e => (Rh.getD e (0, 0)).1) (fun e => (Rh.getD e (0, 0)).2) E T C (fun e j => rd (Ll e) (j : Int)) (fun e j => rd (Lh e) (j : Int)) := by
  obtain ⟨gl', cl', hvl, hcl⟩ := SL.cells hl
  obtain ⟨gh', ch', hvh, hch⟩ := SH.cells hh
  simp only [Value.slice.injEq, Option.some.injEq, Addr.mk.injEq] at hvl hvh
  obtain ⟨⟨rfl, _⟩, _, rfl⟩ := hvl
  obtain ⟨⟨rfl, _⟩, _, rfl⟩ := hvh
  have gl_ : ∀ (e : Nat), e ≤ ne → Rl[e]? = some (Rl.getD e (0, 0)) := fun e he => by
    rw [List.getD_eq_getElem?_getD, List.getElem?_eq_getElem (by omega)]; rfl
  have gh_ : ∀ (e : Nat), e ≤ ne → Rh[e]? = some (Rh.getD e (0, 0)) := fun e he => by
    rw [List.getD_eq_getElem?_getD, List.getElem?_eq_getElem (by omega)]; rfl
  refine ⟨(blk_cell tb 0).trans rfl, (blk_cell tb 1).trans rfl, (blk_cell tb 2).trans rfl, (blk_cell tb 3).trans rfl, (blk_cell tb 4).trans rfl, ?_, ?_, ?_, ?_⟩
  · intro e he
    obtain ⟨p, hp, hc⟩ := hcl e he
    rw [gl_ e he] at hp
    injection hp with hp
    rw [hp]; exact hc
  · intro e he
    obtain ⟨p, hp, hc⟩ := hch e he
    rw [gh_ e he] at hp
    injection hp with hp
    rw [hp]; exact hc
  · intro e j he hj
    exact (SL.at_ e _ (gl_ e he) j hj).1
  · intro e j he hj
    exact (SH.at_ e _ (gh_ e he) j hj).1
theorem sfloors_after {base e n gl cl gh ch : Nat} {E T C : Int} {Rl Rh : List (Nat × Nat)} {Ll Lh : Nat → List Int} (W : World) (SL : Side W base n (.slice (some ⟨gl, 0, none⟩) (e + 1) cl) Rl Ll) (SH : Side W base n (.slice (some ⟨gh, 0, none⟩) (e + 1) ch) Rh Lh) (hl : Rl.length = e + 1) (hh : Rh.length = e + 1)
    (TL : TV Ll E T C e n 0 (e + 1) 1) (TH : TV Lh E T C e n 1 (e + 1) 1) (he : 1 ≤ e) (he2 : e ≤ 10) (hn : n ≤ 60) (hp : Prs E T C) :
    Calls Try.prog 35 #[.pointer (some ⟨W.heap.size, 0, none⟩), .int .i64 e, .int .i64 n, .int .i64 0] (W.alloc (.cells #[.int .i64 E, .int .i64 T, .int .i64 C, .slice (some ⟨gl, 0, none⟩) (e + 1) cl, .slice (some ⟨gh, 0, none⟩) (e + 1) ch] 42 (0, 0))) fun e' w' => ∃ v, e' = .returned v ∧ Kd.R (Kd.int .i64) 3 w' (W.alloc (.cells #[.int .i64 E, .int .i64 T, .int .i64 C, .slice (some ⟨gl, 0, none⟩) (e + 1) cl, .slice (some ⟨gh, 0, none⟩) (e + 1) ch] 42 (0, 0))).heap.size (fun _ => True) v (flS E T C e n n) ∧ Below (W.alloc (.cells #[.int .i64 E, .int .i64 T, .int .i64 C, .slice (some ⟨gl, 0, none⟩) (e + 1) cl, .slice (some ⟨gh, 0, none⟩) (e + 1) ch] 42 (0, 0))).heap.size (W.alloc (.cells #[.int .i64 E, .int .i64 T, .int .i64 C, .slice (some ⟨gl, 0, none⟩) (e + 1) cl, .slice (some ⟨gh, 0, none⟩) (e + 1) ch] 42 (0, 0))) w' := by
  have hb := below_alloc (Below.refl W.heap.size W) (.cells #[.int .i64 E, .int .i64 T, .int .i64 C, .slice (some ⟨gl, 0, none⟩) (e + 1) cl, .slice (some ⟨gh, 0, none⟩) (e + 1) ch] 42 (0, 0))
  have h1 := sides_rd (SL.below hb) (SH.below hb) hl hh (blk_new W _)
  exact sfloors_calls e n _ h1 he (Nat.le_refl _) he2 (Nat.le_refl _) hn hp (TV.knows2 TL TH e n he (Nat.le_refl _) (Nat.le_refl _))
set_option maxHeartbeats 8000000 in
set_option maxRecDepth 100000 in
theorem spec_CostFloors.calls (k : Nat) (a0_0 a0_1 a0_2 a1 a2 : Int) (r1 : List Int) (r2 : Bool) (w : World) (h : spec_CostFloors.f k a0_0 a0_1 a0_2 a1 a2 = some (r1, r2)) :
    Calls Try.prog 23 #[.agg #[.int .i64 a0_0, .int .i64 a0_1, .int .i64 a0_2], .int .i64 a1, .int .i64 a2] w fun e w' => ∃ v0_ : Value, e = .returned (.tuple #[v0_, .bool r2]) ∧ Kd.R (Kd.int .i64) 3 w' w.heap.size (fun _ => True) v0_ r1 ∧ Below w.heap.size w w' := by
  unfold spec_CostFloors.f at h
  obtain ⟨t, ht, h⟩ := Option.bind_eq_some_iff.mp h
  have HW := Aside0.mk (fun W => spec_csAsked.calls k a0_0 a0_1 a0_2 a1 a2 t W ht)
  have HB := Aside0.mk (Below.refl w.heap.size w)
  cases t with
  | false =>
    rw [if_neg (by decide)] at h
    obtain ⟨rfl, rfl⟩ := Prod.mk.inj (Option.some.inj h)
    clear h ht
    go_enter Try.func23, Try.ntmps23
    go_wp2_with (first
      | ((with_reducible refine gate_dst (N := 3) rfl ?_); refine box_event ?hg (N := 3) ?hd (cs := #[.int .i64 a0_0, .int .i64 a0_1, .int .i64 a0_2]) (t := 28) ?hr ?_; (case hd => rfl); (case hg => rfl); (case hr => first | (go_simp; done) | (go_simp; rfl)); intro g3 hg w3 hbox hb; have HB := Aside0.mk (below_step HB.out hb); have K3 := Aside0.mk hbox; have hx0 : w3.cell? ⟨g3, 0, none⟩ = some (.int .i64 a0_0) := (blk_cell hbox 0).trans rfl; have hx1 : w3.cell? ⟨g3, 1, none⟩ = some (.int .i64 a0_1) := (blk_cell hbox 1).trans rfl; have hx2 : w3.cell? ⟨g3, 2, none⟩ = some (.int .i64 a0_2) := (blk_cell hbox 2).trans rfl; clear hg hbox hb)
      | (go_at_call 25; refine (HW.out _).mono ?_; rintro e_ w4 ⟨rfl, hb⟩; have HB := Aside0.mk (below_step HB.out hb); have K3 := Aside0.mk (blk_below K3.out hb); clear hx0 hx1 hx2; have hx0 : w4.cell? ⟨g3, 0, none⟩ = some (.int .i64 a0_0) := (blk_cell K3.out 0).trans rfl; have hx1 : w4.cell? ⟨g3, 1, none⟩ = some (.int .i64 a0_1) := (blk_cell K3.out 1).trans rfl; have hx2 : w4.cell? ⟨g3, 2, none⟩ = some (.int .i64 a0_2) := (blk_cell K3.out 2).trans rfl; clear hb))
    go_ret2
    exact ⟨_, rfl, Kd.R_nil _ _ _ _ _, HB.out⟩
  | true =>
    rw [if_pos rfl] at h
    obtain ⟨⟨⟨p0, p1⟩, ⟨p2, p3⟩, ⟨p4, p5⟩⟩, ⟨ha, hb⟩, ⟨hc, hd⟩⟩ := asked_true ht
    have HPR := Aside0.mk (show Prs a0_0 a0_1 a0_2 from ⟨p0, p1, p2, p3, p4, p5⟩)
    obtain ⟨rfl, rfl⟩ := Prod.mk.inj (Option.some.inj h)
    obtain ⟨e, rfl⟩ : ∃ m : Nat, a1 = m := ⟨a1.toNat, by omega⟩
    obtain ⟨n, rfl⟩ : ∃ m : Nat, a2 = m := ⟨a2.toNat, by omega⟩
    rw [Int.toNat_natCast, Int.toNat_natCast]
    have HN1 : Aside0 (e ≤ 10) := ⟨by omega⟩
    have HN2 : Aside0 (n ≤ 60) := ⟨by omega⟩
    clear h ht p0 p1 p2 p3 p4 p5
    have HE1 : Aside0 (1 ≤ e) := ⟨by omega⟩
    go_enter Try.func23, Try.ntmps23
    go_wp2_with (first
      | ((with_reducible refine gate_dst (N := 3) rfl ?_); refine box_event ?hg (N := 3) ?hd (cs := #[.int .i64 a0_0, .int .i64 a0_1, .int .i64 a0_2]) (t := 28) ?hr ?_; (case hd => rfl); (case hg => rfl); (case hr => first | (go_simp; done) | (go_simp; rfl)); intro g3 hg w3 hbox hb; have HB := Aside0.mk (below_step HB.out hb); have K3 := Aside0.mk hbox; have hx0 : w3.cell? ⟨g3, 0, none⟩ = some (.int .i64 a0_0) := (blk_cell hbox 0).trans rfl; have hx1 : w3.cell? ⟨g3, 1, none⟩ = some (.int .i64 a0_1) := (blk_cell hbox 1).trans rfl; have hx2 : w3.cell? ⟨g3, 2, none⟩ = some (.int .i64 a0_2) := (blk_cell hbox 2).trans rfl; clear hg hbox hb)
      | (go_at_call 25; refine (HW.out _).mono ?_; rintro e_ w4 ⟨rfl, hb⟩; have HB := Aside0.mk (below_step HB.out hb); have K3 := Aside0.mk (blk_below K3.out hb); clear hx0 hx1 hx2; have hx0 : w4.cell? ⟨g3, 0, none⟩ = some (.int .i64 a0_0) := (blk_cell K3.out 0).trans rfl; have hx1 : w4.cell? ⟨g3, 1, none⟩ = some (.int .i64 a0_1) := (blk_cell K3.out 1).trans rfl; have hx2 : w4.cell? ⟨g3, 2, none⟩ = some (.int .i64 a0_2) := (blk_cell K3.out 2).trans rfl; clear hb)
      | (go_at_call 26; refine (csMake_calls a0_0 a0_1 a0_2 e n _ HN1.out HN2.out HPR.out).mono ?_; rintro e_ w5 ⟨vl, vh, Rl, Rh, Ll, Lh, rfl, SL, SH, hl, hh, TL, TH, hb⟩; obtain ⟨gl, cl, rfl, hcl⟩ := SL.cells hl; obtain ⟨gh, ch, rfl, hch⟩ := SH.cells hh; have HB := Aside0.mk (below_step HB.out hb); have HFL := Aside0.mk (sfloors_after w5 SL SH hl hh TL TH HE1.out HN1.out HN2.out HPR.out); clear hcl hch SL SH hl hh TL TH hb hx0 hx1 hx2)
      | (go_at_call 35; refine (HFL.out).mono ?_; rintro e_ w7 ⟨v, rfl, hr, hb⟩; have HO := Aside0.mk (Kd.R_lower hr (below_size (by repeat (first | (with_reducible first | exact HB.out | apply below_alloc | apply pw_below_drewN | apply below_drew1) | exact HB.out)))); have HB := Aside0.mk (below_step (by repeat (first | (with_reducible first | exact HB.out | apply below_alloc | apply pw_below_drewN | apply below_drew1) | exact HB.out)) hb); clear hr hb))
    go_ret2
    exact ⟨_, rfl, HO.out, HB.out⟩

end Go.Proofs.Ytkbmefmnfoalhaa.PrintC
