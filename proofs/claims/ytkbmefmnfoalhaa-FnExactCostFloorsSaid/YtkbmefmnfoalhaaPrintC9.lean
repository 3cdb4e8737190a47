-- written by this session's own driver (wip/gen.py) with the kit's print and contracts of our own
import Derived.Test.YtkbmefmnfoalhaaPrintC0
import Derived.Test.YtkbmefmnfoalhaaPrintC7
import Derived.Test.YtkbmefmnfoalhaaPrintC8
namespace Go.Proofs.Ytkbmefmnfoalhaa.PrintC
open Go.RowKit Go.Proofs.YtkbmefmnfoalhaaLib Go.Proofs.YtkbmefmnfoalhaaW.PrintWords Go.Proofs.YtkbmefmnfoalhaaW.PrintLast Go.Proofs.YtkbmefmnfoalhaaW.PrintMore
attribute [local go_sem] max2_int min2_int max_two min_two max_three min_three max_four min_four   -- for this text's walks alone
set_option linter.unusedVariables false
set_option linter.unusedSimpArgs false

/-! ### spec_csTable_by: function 44, a contract of our own -/
-- LIB Cost
/-- The reference's table in memory: prices, rows of least costs from below and from above. -/
structure RD (W : World) (g gl cl gh ch ne nf : Nat) (rl pl rh ph : Nat → Nat) (E T C : Int) (low high : Nat → Nat → Int) : Prop where
  p0 : W.cell? ⟨g, 0, none⟩ = some (.int .i64 E)
  p1 : W.cell? ⟨g, 1, none⟩ = some (.int .i64 T)
  p2 : W.cell? ⟨g, 2, none⟩ = some (.int .i64 C)
  lo : W.cell? ⟨g, 3, none⟩ = some (.slice (some ⟨gl, 0, none⟩) (ne + 1) cl)
  hi : W.cell? ⟨g, 4, none⟩ = some (.slice (some ⟨gh, 0, none⟩) (ne + 1) ch)
  lr : ∀ e, e ≤ ne → W.cell? ⟨gl, e, none⟩ = some (.slice (some ⟨rl e, 0, none⟩) (nf + 1) (pl e))
  hr : ∀ e, e ≤ ne → W.cell? ⟨gh, e, none⟩ = some (.slice (some ⟨rh e, 0, none⟩) (nf + 1) (ph e))
  lc : ∀ e j, e ≤ ne → j ≤ nf → W.cell? ⟨rl e, j, none⟩ = some (.int .i64 (low e j))
  hc : ∀ e j, e ≤ ne → j ≤ nf → W.cell? ⟨rh e, j, none⟩ = some (.int .i64 (high e j))
theorem cell_below {W w1 : World} {p : Addr} {v : Value} (h : W.cell? p = some v) (hb : Below W.heap.size W w1) : w1.cell? p = some v := (hb.cell (World.block_lt_of_cell? W _ h)).trans h
theorem RD.below {W w1 : World} {g gl cl gh ch ne nf : Nat} {rl pl rh ph : Nat → Nat} {E T C : Int} {low high : Nat → Nat → Int} (h : RD W g gl cl gh ch ne nf rl pl rh ph E T C low high) (hb : Below W.heap.size W w1) : RD w1 g gl cl gh ch ne nf rl pl rh ph E T C low high :=
  ⟨cell_below h.p0 hb, cell_below h.p1 hb, cell_below h.p2 hb, cell_below h.lo hb, cell_below h.hi hb, fun e he => cell_below (h.lr e he) hb, fun e he => cell_below (h.hr e he) hb, fun e j he hj => cell_below (h.lc e j he hj) hb, fun e j he hj => cell_below (h.hc e j he hj) hb⟩
theorem abs_is (x way : Int) (h0 : 0 ≤ way) (h1 : way ≤ 1000) (h : x = way ∨ x = -way) : spec_l1Abs.f x = some way := by
  unfold spec_l1Abs.f spec_l1Most.f
  have e : wrap64 (-x) = -x := by unfold wrap64; omega
  rw [e]
  clear e
  split
  · rw [Option.bind_some]; congr 1; omega
  · rw [Option.bind_some]; congr 1; omega
set_option maxHeartbeats 8000000 in
set_option maxRecDepth 100000 in
theorem by_calls (g gl cl gh ch ne nf : Nat) (rl pl rh ph : Nat → Nat) (E T C : Int) (low high : Nat → Nat → Int) (e n fr f : Nat) (way : Int) (w : World) (hI : RD w g gl cl gh ch ne nf rl pl rh ph E T C low high) (he : 1 ≤ e) (hne : e ≤ ne) (hne2 : ne ≤ 10) (hn : n ≤ nf) (hnf : nf ≤ 60) (hf : 1 ≤ f) (hfn : f ≤ n) (hfr : fr ≤ 61)
    (hw0 : 0 ≤ way) (hw1 : way ≤ 60) (hway : (fr : Int) - f = way ∨ (fr : Int) - f = -way) (hp : Prs E T C) (hv1 : 0 ≤ high (e - 1) (f - 1) ∧ high (e - 1) (f - 1) ≤ 1125899907000000) (hv2 : 0 ≤ low e (n - f) ∧ low e (n - f) ≤ 1125899907000000) :
    Calls Try.prog 44 #[.pointer (some ⟨g, 0, none⟩), .int .i64 e, .int .i64 n, .int .i64 fr, .int .i64 f] w fun e' w' => e' = .returned (.int .i64 (T + C * way + max (E + high (e - 1) (f - 1)) (low e (n - f)))) ∧ ∃ m, w' = w.drewN m := by
  obtain ⟨e', rfl⟩ : ∃ e', e = e' + 1 := ⟨e - 1, by omega⟩
  obtain ⟨f', rfl⟩ : ∃ f', f = f' + 1 := ⟨f - 1, by omega⟩
  obtain ⟨m, rfl⟩ : ∃ m, n = f' + 1 + m := ⟨n - (f' + 1), by omega⟩
  have HABS : Aside0 (∀ (W : World) (q : Nat), Calls Try.prog 47 #[.int .i64 ((fr : Int) - ((f' : Int) + 1))] (W.drewN q) fun e' w' => e' = .returned (.int .i64 way) ∧ w' = W.drewN q) :=
    ⟨fun W q => (spec_l1Abs.calls0 ((fr : Int) - ((f' : Int) + 1)) way (W.drewN q) (abs_is _ _ hw0 (by omega) (by omega))).mono fun _ _ h => ⟨h.1, h.2.symm⟩⟩
  have hx0 := hI.p0
  have hx1 := hI.p1
  have hx2 := hI.p2
  have hx3 := hI.lo
  have hx4 := hI.hi
  have hx5 := hI.hr e' (by omega)
  have hx6 := hI.hc e' f' (by omega) (by omega)
  have hx7 := hI.lr (e' + 1) (by omega)
  have hx8 := hI.lc (e' + 1) m (by omega) (by omega)
  rw [Nat.add_sub_cancel, Nat.add_sub_cancel, Nat.add_sub_cancel_left] at *
  obtain ⟨e0, e1, t0, t1, c0, c1⟩ := hp
  have hmul := mulC c0 c1 hw0 hw1
  generalize high e' f' = x at hx6 hv1 ⊢
  obtain ⟨y, hy⟩ : ∃ y, low (e' + 1) m = y := ⟨_, rfl⟩
  have HY : Aside0 (some (Value.int .i64 (low (e' + 1) m)) = some (.int .i64 y)) := ⟨by rw [hy]⟩
  rw [hy] at hx8 hv2 ⊢
  clear hy
  have HI := Aside0.mk hI
  have HMOST : Aside0 (∀ (W : World) (q : Nat), Calls Try.prog 48 #[.int .i64 (E + x), .int .i64 y] (W.drewN q) fun e' w' => e' = .returned (.int .i64 (max (E + x) y)) ∧ w' = W.drewN q) :=
    ⟨fun W q => (spec_l1Most.calls0 (E + x) y (max (E + x) y) (W.drewN q) (spec_l1Most_is _ _)).mono fun _ _ h => ⟨h.1, h.2.symm⟩⟩
  clear hI hway
  obtain ⟨xl, xh⟩ := hv1
  obtain ⟨yl, yh⟩ := hv2
  obtain ⟨ml, mh⟩ := hmul
  have hz0 : (e' : Int) < (ne : Int) + 1 := by omega
  have hz1 : (e' : Int) + 1 < (ne : Int) + 1 := by omega
  have hz2 : (f' : Int) < (nf : Int) + 1 := by omega
  have hz3 : (m : Int) < (nf : Int) + 1 := by omega
  have hz4 : (0 : Int) ≤ (e' : Int) + 1 := by omega
  have hz5 : ((e' : Int) + 1).toNat = e' + 1 := by omega
  have hmm : max (E + x) y ≤ 1125899907001000 ∧ 0 ≤ max (E + x) y := by omega
  obtain ⟨hw1, hw2, hw3, hw4, hw5, hw6, hw7⟩ : IntKind.i64.wrap (e' : Int) = e' ∧ IntKind.i64.wrap (f' : Int) = f' ∧ IntKind.i64.wrap (m : Int) = m ∧ IntKind.i64.wrap (C * way) = C * way ∧ IntKind.i64.wrap (T + C * way) = T + C * way ∧ IntKind.i64.wrap (E + x) = E + x ∧ IntKind.i64.wrap ((fr : Int) - ((f' : Int) + 1)) = (fr : Int) - ((f' : Int) + 1) := by
    generalize C * way = p at ml mh ⊢
    refine ⟨?_, ?_, ?_, ?_, ?_, ?_, ?_⟩ <;> (rw [i64_w]; unfold wrap64; omega)
  have hw8 : IntKind.i64.wrap (T + C * way + max (E + x) y) = T + C * way + max (E + x) y := by
    clear hw1 hw2 hw3 hw4 hw5 hw6 hw7
    generalize C * way = p at ml mh ⊢
    generalize max (E + x) y = q at hmm ⊢
    rw [i64_w]; unfold wrap64; omega
  clear ml mh hmm hfr
  generalize max (E + x) y = q at HMOST hw8 ⊢
  go_enter Try.func44, Try.ntmps44
  go_wp2
  go_quiet (fail)
  have hI2 := HI.out.below (pw_below_drewN (Below.refl w.heap.size w) nq)
  clear hx0 hx1 hx2 hx3 hx4 hx5 hx6 hx7 hx8
  generalize hW : w.drewN nq = w2 at hI2 ⊢
  have HW2 := Aside0.mk hW
  clear hW
  have hx1 := hI2.p1
  have hx2 := hI2.p2
  have hx3 := hI2.lo
  have hx7 := hI2.lr (e' + 1) (by clear hw1 hw2 hw3 hw4 hw5 hw6 hw7 hw8; omega)
  have hx8 := (hI2.lc (e' + 1) m (by clear hw1 hw2 hw3 hw4 hw5 hw6 hw7 hw8; omega) (by clear hw1 hw2 hw3 hw4 hw5 hw6 hw7 hw8; omega)).trans HY.out
  clear hI2
  go_wp2
  go_quiet (first | (go_at_call 47; refine Calls.quiet_of_same (HABS.out _ _)) | (go_at_call 48; refine Calls.quiet_of_same (HMOST.out _ _)))
  go_wp2
  go_ret
  exact ⟨rfl, _, by rw [← HW2.out, World.drewN_drewN]⟩

end Go.Proofs.Ytkbmefmnfoalhaa.PrintC
