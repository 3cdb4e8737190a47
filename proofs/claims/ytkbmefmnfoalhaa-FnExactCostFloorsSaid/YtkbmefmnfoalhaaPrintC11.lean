-- written by this session's own driver (wip/gen.py) with the kit's print and contracts of our own
import Derived.Test.YtkbmefmnfoalhaaPrintC0
import Derived.Test.YtkbmefmnfoalhaaPrintC1
import Derived.Test.YtkbmefmnfoalhaaPrintC9
import Derived.Test.YtkbmefmnfoalhaaPrintC10
namespace Go.Proofs.Ytkbmefmnfoalhaa.PrintC
open Go.RowKit Go.Proofs.YtkbmefmnfoalhaaLib Go.Proofs.YtkbmefmnfoalhaaW.PrintWords Go.Proofs.YtkbmefmnfoalhaaW.PrintLast Go.Proofs.YtkbmefmnfoalhaaW.PrintMore
attribute [local go_sem] max2_int min2_int max_two min_two max_three min_three max_four min_four   -- for this text's walks alone
set_option linter.unusedVariables false
set_option linter.unusedSimpArgs false

/-! ### spec_csMake: function 26, a contract of our own -/
/-- One half of the reference's table: a row of rows of its own. -/
structure Side (W : World) (base nf : Nat) (v : Value) (R : List (Nat × Nat)) (L : Nat → List Int) : Prop where
  own : (Kd.raw 1).R 34 W base (fun k => some k = v.ownBlock) v (R.map (fun p => [Value.slice (some ⟨p.1, 0, none⟩) (nf + 1) p.2]))
  row : ∀ (i : Nat) (p : Nat × Nat), R[i]? = some p → (Kd.int .i64).R 3 W base (fun k => k = p.1) (.slice (some ⟨p.1, 0, none⟩) (nf + 1) p.2) (L i)
  inj : ∀ (i j : Nat) (p q : Nat × Nat), R[i]? = some p → R[j]? = some q → i ≠ j → p.1 ≠ q.1
theorem cells_ne {W : World} {k : Nat} {c1 c2 : Array Value} {t1 t2 : Nat} (h1 : W.heap[k]? = some (.cells c1 t1 (0, 0))) (h2 : W.heap[k]? = some (.cells c2 t2 (0, 0))) (ht : t1 ≠ t2) : False := by
  rw [h1] at h2
  injection h2 with h2
  injection h2 with _ h3
  exact ht h3
theorem own_slice (g n c : Nat) : (Value.slice (some ⟨g, 0, none⟩) n c).ownBlock = some g := by simp [Value.ownBlock]
theorem Side.row_ty {W : World} {base nf : Nat} {v : Value} {R : List (Nat × Nat)} {L : Nat → List Int} (h : Side W base nf v R L) {i : Nat} {p : Nat × Nat} (hi : R[i]? = some p) : ∃ c, W.heap[p.1]? = some (.cells c 3 (0, 0)) :=
  Kd.R_typed (h.row i p hi) p.1 (own_slice _ _ _)
theorem Side.row_lt {W : World} {base nf : Nat} {v : Value} {R : List (Nat × Nat)} {L : Nat → List Int} (h : Side W base nf v R L) {i : Nat} {p : Nat × Nat} (hi : R[i]? = some p) : p.1 < W.heap.size :=
  Kd.R_lt (h.row i p hi) p.1 (own_slice _ _ _)
theorem Side.row_ne {W : World} {base nf : Nat} {v : Value} {R : List (Nat × Nat)} {L : Nat → List Int} (h : Side W base nf v R L) {v2 : Value} {R2 : List (Nat × Nat)} {L2 : Nat → List Int} (h2 : Side W base nf v2 R2 L2) {i : Nat} {p : Nat × Nat} (hi : R[i]? = some p) : v2.ownBlock ≠ some p.1 := fun he => by
  obtain ⟨c1, h3⟩ := h.row_ty hi
  obtain ⟨c2, h4⟩ := Kd.R_typed h2.own p.1 he
  exact cells_ne h3 h4 (by decide)
theorem Side.step {W W1 : World} {base nf : Nat} {v : Value} {R : List (Nat × Nat)} {L : Nat → List Int} (h : Side W base nf v R L) (h1 : ∀ k, k < W.heap.size → v.ownBlock = some k → W1.heap[k]? = W.heap[k]?) (h2 : ∀ (i : Nat) (p : Nat × Nat), R[i]? = some p → W1.heap[p.1]? = W.heap[p.1]?) : Side W1 base nf v R L :=
  ⟨Kd.R_step h.own (fun k hk hlt => h1 k hlt hk.symm), fun i p hi => Kd.R_step (h.row i p hi) (fun k hk _ => by rw [hk]; exact h2 i p hi), h.inj⟩
theorem Side.below {W W1 : World} {base nf : Nat} {v : Value} {R : List (Nat × Nat)} {L : Nat → List Int} (h : Side W base nf v R L) (hb : Below W.heap.size W W1) : Side W1 base nf v R L :=
  h.step (fun k hk _ => hb.block k hk) (fun i p hi => hb.block _ (h.row_lt hi))
theorem Side.nil (W : World) (base nf : Nat) (L : Nat → List Int) : Side W base nf (.slice none 0 0) [] L :=
  ⟨Kd.raw_tight (Kd.R_nil _ _ _ _ (fun _ => True)), fun i p hi => by simp at hi, fun i j p q hi => by simp at hi⟩
theorem Side.far {W : World} {base nf : Nat} {v : Value} {R : List (Nat × Nat)} {L : Nat → List Int} (h : Side W base nf v R L) {g : Nat} {c : Array Value} {t : Nat} (hg : W.heap[g]? = some (.cells c t (0, 0))) (ht : t ≠ 3) (ht2 : t ≠ 34) (j : Nat) (u : Value) : Side (W.setCell ⟨g, j, none⟩ u) base nf v R L :=
  h.step (fun k _ hk => Below.heap_setCell W ⟨g, j, none⟩ u k (fun he => by
      obtain ⟨c2, h2⟩ := Kd.R_typed h.own k hk
      rw [he] at h2
      exact cells_ne hg h2 ht2))
    (fun i p hi => Below.heap_setCell W ⟨g, j, none⟩ u p.1 (fun he => by
      obtain ⟨c2, h2⟩ := h.row_ty hi
      rw [he] at h2
      exact cells_ne hg h2 ht))
theorem Side.add {W w3 w4 : World} {base nf gr cr : Nat} {v v1 : Value} {R : List (Nat × Nat)} {L : Nat → List Int} {z : List Int} (h : Side W base nf v R L) (hb : Below W.heap.size W w3) (hbase : base ≤ W.heap.size)
    (hor : (Kd.int .i64).R 3 w3 W.heap.size (fun _ => True) (.slice (some ⟨gr, 0, none⟩) (nf + 1) cr) z)
    (hr : (Kd.raw 1).R 34 w4 base (fun _ => True) v1 (R.map (fun p => [Value.slice (some ⟨p.1, 0, none⟩) (nf + 1) p.2]) ++ [[Value.slice (some ⟨gr, 0, none⟩) (nf + 1) cr]])) (hg : w3.grownBy w4 v.ownBlock) :
    Side w4 base nf v1 (R ++ [(gr, cr)]) (fun i => if i = R.length then z else L i) := by
  have hge : W.heap.size ≤ gr := Kd.R_base hor gr (own_slice _ _ _)
  have hgl : gr < w3.heap.size := Kd.R_lt hor gr (own_slice _ _ _)
  have hvl : ∀ k, v.ownBlock = some k → k < W.heap.size := Kd.R_lt h.own
  have old : ∀ (i : Nat) (p : Nat × Nat), (R ++ [(gr, cr)])[i]? = some p → (i < R.length ∧ R[i]? = some p) ∨ (i = R.length ∧ p = (gr, cr)) := by
    intro i p hi
    by_cases hlt : i < R.length
    · rw [List.getElem?_append_left hlt] at hi; exact Or.inl ⟨hlt, hi⟩
    · rw [List.getElem?_append_right (by omega)] at hi
      have h0 : i - R.length = 0 := by
        apply Classical.byContradiction
        intro hne
        rw [List.getElem?_eq_none (by simp; omega)] at hi
        cases hi
      rw [h0] at hi
      simp at hi
      exact Or.inr ⟨by omega, hi.symm⟩
  refine ⟨by rw [List.map_append]; exact Kd.raw_tight hr, ?_, ?_⟩
  · intro i p hi
    rcases old i p hi with ⟨hlt, hi⟩ | ⟨rfl, rfl⟩
    · rw [if_neg (by omega)]
      refine Kd.R_step (h.row i p hi) (fun k hk hlt' => ?_)
      rw [hk, hg.block p.1 (Nat.lt_of_lt_of_le (h.row_lt hi) hb.size) (fun he => h.row_ne h hi he.symm)]
      exact hb.block _ (h.row_lt hi)
    · rw [if_pos rfl]
      refine Kd.R_lower (Kd.R_step (r_int_ok hor (ok' := fun k => k = gr) (fun k hk => by rw [own_slice] at hk; injection hk with hk; exact hk.symm)) (fun k hk hlt' => ?_)) hbase
      rw [hk]
      exact hg.block gr hgl (fun he => by have := hvl gr he.symm; omega)
  · intro i j p q hi hj hij
    rcases old i p hi with ⟨hlt, hi⟩ | ⟨rfl, rfl⟩ <;> rcases old j q hj with ⟨hlt2, hj⟩ | ⟨rfl, rfl⟩
    · exact h.inj i j p q hi hj hij
    · have := h.row_lt hi; show p.1 ≠ gr; omega
    · have := h.row_lt hj; show gr ≠ q.1; omega
    · exact absurd rfl hij
theorem Side.put {W : World} {base nf : Nat} {v : Value} {R : List (Nat × Nat)} {L : Nat → List Int} (h : Side W base nf v R L) (e : Nat) (p : Nat × Nat) (he : R[e]? = some p) (j : Nat) (x : Int) : Side (W.setCell ⟨p.1, j, none⟩ (.int .i64 x)) base nf v R (fun i => if i = e then (L e).set j x else L i) := by
  refine ⟨Kd.R_far h.own (fun k hk hne => h.row_ne h he (hk.symm.trans (congrArg some hne))) _, ?_, h.inj⟩
  intro i q hi
  by_cases hie : i = e
  · subst hie
    rw [he] at hi
    injection hi with hi
    subst hi
    rw [if_pos rfl]
    have := (Kd.R_putg (h.row i p he) (j : Int) x).1
    rw [Int.toNat_natCast] at this
    exact this
  · rw [if_neg hie]
    exact Kd.R_far (h.row i q hi) (fun k hk hne => h.inj i e q p hi he hie (by rw [← hk]; exact hne)) _
theorem Side.put_far {W : World} {base nf : Nat} {v v2 : Value} {R R2 : List (Nat × Nat)} {L L2 : Nat → List Int} (h : Side W base nf v R L) (h2 : Side W base nf v2 R2 L2) (hrr : ∀ (i j : Nat) (p q : Nat × Nat), R[i]? = some p → R2[j]? = some q → p.1 ≠ q.1) (e : Nat) (p : Nat × Nat) (he : R[e]? = some p) (j : Nat) (u : Value) : Side (W.setCell ⟨p.1, j, none⟩ u) base nf v2 R2 L2 :=
  ⟨Kd.R_far h2.own (fun k hk hne => h.row_ne h2 he (hk.symm.trans (congrArg some hne))) _, fun i q hi => Kd.R_far (h2.row i q hi) (fun k hk hne => hrr e i p q he hi (by rw [← hk]; exact hne.symm)) _, h2.inj⟩
theorem Side.cells {W : World} {base nf ne : Nat} {v : Value} {R : List (Nat × Nat)} {L : Nat → List Int} (h : Side W base nf v R L) (hR : R.length = ne + 1) :
    ∃ gl cl, v = .slice (some ⟨gl, 0, none⟩) (ne + 1) cl ∧ (∀ e, e ≤ ne → ∃ p, R[e]? = some p ∧ W.cell? ⟨gl, e, none⟩ = some (.slice (some ⟨p.1, 0, none⟩) (nf + 1) p.2)) := by
  obtain ⟨gl, cl, hv, _⟩ := Kd.R_form h.own (by rw [List.length_map]; omega)
  rw [List.length_map, hR] at hv
  refine ⟨gl, cl, hv, fun e he => ?_⟩
  have hlt : e < R.length := by omega
  refine ⟨R[e], List.getElem?_eq_getElem hlt, ?_⟩
  have ho := h.own
  rw [hv] at ho
  obtain ⟨c, hcl, hM, hcc, _⟩ := Kd.R_elem ho [] (e : Int) (by omega) (by omega)
  have hc : c = [Value.slice (some ⟨R[e].1, 0, none⟩) (nf + 1) R[e].2] := by
    have := hM.1
    rw [this]
    simp [List.getD_eq_getElem?_getD, hlt]
  have := hcc 0 (Value.slice (some ⟨R[e].1, 0, none⟩) (nf + 1) R[e].2) (by rw [hc]; rfl)
  simpa [Kd.raw] using this
theorem Side.at_ {W : World} {base nf : Nat} {v : Value} {R : List (Nat × Nat)} {L : Nat → List Int} (h : Side W base nf v R L) (e : Nat) (p : Nat × Nat) (he : R[e]? = some p) (j : Nat) (hj : j ≤ nf) : W.cell? ⟨p.1, j, none⟩ = some (.int .i64 (rd (L e) (j : Int))) ∧ W.frozen? ⟨p.1, j, none⟩ = false := by
  have := Kd.R_celln 0 (h.row e p he) (j : Int) (by omega) (by omega)
  rw [Int.toNat_natCast] at this
  exact this
/-- The reference's table on its way: its block, the result's block, its two halves apart. -/
structure CS (w W : World) (g6 g nf : Nat) (E T C : Int) (vl vh : Value) (Rl Rh : List (Nat × Nat)) (Ll Lh : Nat → List Int) : Prop where
  tb : W.heap[g]? = some (.cells #[.int .i64 E, .int .i64 T, .int .i64 C, vl, vh] 42 (0, 0))
  rb : W.heap[g6]? = some (.cells #[.int .i64 0, .int .i64 0, .int .i64 0, .slice none 0 0, .slice none 0 0] 42 (0, 0))
  lo : Side W w.heap.size nf vl Rl Ll
  hi : Side W w.heap.size nf vh Rh Lh
  ap : ∀ (i j : Nat) (p q : Nat × Nat), Rl[i]? = some p → Rh[j]? = some q → p.1 ≠ q.1
  oo : ∀ (k : Nat), vl.ownBlock = some k → vh.ownBlock = some k → False
  bl : Below w.heap.size w W
  gg : w.heap.size ≤ g
  ne : g6 ≠ g
section
variable {w W : World} {g6 g nf : Nat} {E T C : Int} {vl vh : Value} {Rl Rh : List (Nat × Nat)} {Ll Lh : Nat → List Int}
theorem CS.below (h : CS w W g6 g nf E T C vl vh Rl Rh Ll Lh) {W1 : World} (hb : Below W.heap.size W W1) : CS w W1 g6 g nf E T C vl vh Rl Rh Ll Lh :=
  ⟨blk_below h.tb hb, blk_below h.rb hb, h.lo.below hb, h.hi.below hb, h.ap, h.oo, below_step h.bl hb, h.gg, h.ne⟩
theorem CS.lnot (h : CS w W g6 g nf E T C vl vh Rl Rh Ll Lh) : vl.ownBlock ≠ some g ∧ vh.ownBlock ≠ some g ∧ vl.ownBlock ≠ some g6 ∧ vh.ownBlock ≠ some g6 := by
  refine ⟨fun he => ?_, fun he => ?_, fun he => ?_, fun he => ?_⟩
  · obtain ⟨c, hc⟩ := Kd.R_typed h.lo.own _ he; exact cells_ne h.tb hc (by decide)
  · obtain ⟨c, hc⟩ := Kd.R_typed h.hi.own _ he; exact cells_ne h.tb hc (by decide)
  · obtain ⟨c, hc⟩ := Kd.R_typed h.lo.own _ he; exact cells_ne h.rb hc (by decide)
  · obtain ⟨c, hc⟩ := Kd.R_typed h.hi.own _ he; exact cells_ne h.rb hc (by decide)
theorem Side.len_lt {base : Nat} {v : Value} {R : List (Nat × Nat)} {L : Nat → List Int} (h : Side W base nf v R L) {gr cr : Nat} (hgr : W.heap.size ≤ gr) (i : Nat) (p : Nat × Nat) (q : Nat × Nat) (j : Nat) (hj : (R ++ [(gr, cr)])[j]? = some q) : (R[j]? = some q) ∨ q = (gr, cr) := by
  by_cases hlt : j < R.length
  · rw [List.getElem?_append_left hlt] at hj; exact Or.inl hj
  · rw [List.getElem?_append_right (by omega)] at hj
    have h0 : j - R.length = 0 := by
      apply Classical.byContradiction
      intro hne
      rw [List.getElem?_eq_none (by simp; omega)] at hj
      cases hj
    rw [h0] at hj
    simp at hj
    exact Or.inr hj.symm
theorem CS.addl (h : CS w W g6 g nf E T C vl vh Rl Rh Ll Lh) {w3 w4 : World} {gr cr : Nat} {v1 : Value} {z : List Int} (hb : Below W.heap.size W w3) (hbase : w.heap.size ≤ W.heap.size)
    (hor : (Kd.int .i64).R 3 w3 W.heap.size (fun _ => True) (.slice (some ⟨gr, 0, none⟩) (nf + 1) cr) z)
    (hr : (Kd.raw 1).R 34 w4 w.heap.size (fun _ => True) v1 (Rl.map (fun p => [Value.slice (some ⟨p.1, 0, none⟩) (nf + 1) p.2]) ++ [[Value.slice (some ⟨gr, 0, none⟩) (nf + 1) cr]])) (hg : w3.grownBy w4 vl.ownBlock) (hbl : Below w.heap.size w w4) (hat : v1.ownBlock = vl.ownBlock ∨ ∃ b, v1.ownBlock = some b ∧ w3.heap.size ≤ b) :
    CS w (w4.setCell ⟨g, 3, none⟩ v1) g6 g nf E T C v1 vh (Rl ++ [(gr, cr)]) Rh (fun i => if i = Rl.length then z else Ll i) Lh := by
  obtain ⟨n1, n2, n3, n4⟩ := h.lnot
  have hgr : W.heap.size ≤ gr := Kd.R_base hor gr (own_slice _ _ _)
  have t4 := blk_grown (blk_below h.tb hb) hg (fun he => n1 he.symm)
  have r4 := blk_grown (blk_below h.rb hb) hg (fun he => n3 he.symm)
  have h4 : Side w4 w.heap.size nf vh Rh Lh := (h.hi.below hb).step (fun k hk hv => hg.block k hk (fun he => h.oo k he.symm hv)) (fun i p hi => hg.block _ (Nat.lt_of_lt_of_le (h.hi.row_lt hi) hb.size) (fun he => (h.hi.row_ne h.lo hi) he.symm))
  have l4 := h.lo.add hb hbase hor hr hg
  refine ⟨?_, blk_far r4 h.ne v1, l4.far t4 (by decide) (by decide) 3 v1, h4.far t4 (by decide) (by decide) 3 v1, ?_, ?_, below_set hbl h.gg, h.gg, h.ne⟩
  · exact blk_put t4 3 v1 rfl
  · intro i j p q hi hj
    rcases Side.len_lt h.lo hgr 0 p p i hi with hi | rfl
    · exact h.ap i j p q hi hj
    · have := h.hi.row_lt hj; show gr ≠ q.1; omega
  · intro k hk hk2
    rcases hat with he | ⟨b, he, hb2⟩
    · exact h.oo k (he ▸ hk) hk2
    · rw [he] at hk; injection hk with hk; have := Kd.R_lt h.hi.own k hk2; have := hb.size; omega
theorem CS.addh (h : CS w W g6 g nf E T C vl vh Rl Rh Ll Lh) {w3 w4 : World} {gr cr : Nat} {v1 : Value} {z : List Int} (hb : Below W.heap.size W w3) (hbase : w.heap.size ≤ W.heap.size)
    (hor : (Kd.int .i64).R 3 w3 W.heap.size (fun _ => True) (.slice (some ⟨gr, 0, none⟩) (nf + 1) cr) z)
    (hr : (Kd.raw 1).R 34 w4 w.heap.size (fun _ => True) v1 (Rh.map (fun p => [Value.slice (some ⟨p.1, 0, none⟩) (nf + 1) p.2]) ++ [[Value.slice (some ⟨gr, 0, none⟩) (nf + 1) cr]])) (hg : w3.grownBy w4 vh.ownBlock) (hbl : Below w.heap.size w w4) (hat : v1.ownBlock = vh.ownBlock ∨ ∃ b, v1.ownBlock = some b ∧ w3.heap.size ≤ b) :
    CS w (w4.setCell ⟨g, 4, none⟩ v1) g6 g nf E T C vl v1 Rl (Rh ++ [(gr, cr)]) Ll (fun i => if i = Rh.length then z else Lh i) := by
  obtain ⟨n1, n2, n3, n4⟩ := h.lnot
  have hgr : W.heap.size ≤ gr := Kd.R_base hor gr (own_slice _ _ _)
  have t4 := blk_grown (blk_below h.tb hb) hg (fun he => n2 he.symm)
  have r4 := blk_grown (blk_below h.rb hb) hg (fun he => n4 he.symm)
  have h4 : Side w4 w.heap.size nf vl Rl Ll := (h.lo.below hb).step (fun k hk hv => hg.block k hk (fun he => h.oo k hv he.symm)) (fun i p hi => hg.block _ (Nat.lt_of_lt_of_le (h.lo.row_lt hi) hb.size) (fun he => (h.lo.row_ne h.hi hi) he.symm))
  have l4 := h.hi.add hb hbase hor hr hg
  refine ⟨?_, blk_far r4 h.ne v1, h4.far t4 (by decide) (by decide) 4 v1, l4.far t4 (by decide) (by decide) 4 v1, ?_, ?_, below_set hbl h.gg, h.gg, h.ne⟩
  · exact blk_put t4 4 v1 rfl
  · intro i j p q hi hj
    rcases Side.len_lt h.hi hgr 0 q q j hj with hj | rfl
    · exact h.ap i j p q hi hj
    · have := h.lo.row_lt hi; show p.1 ≠ gr; omega
  · intro k hk hk2
    rcases hat with he | ⟨b, he, hb2⟩
    · exact h.oo k hk (he ▸ hk2)
    · rw [he] at hk2; injection hk2 with hk2; have := Kd.R_lt h.lo.own k hk; have := hb.size; omega
theorem CS.putl (h : CS w W g6 g nf E T C vl vh Rl Rh Ll Lh) (e : Nat) (p : Nat × Nat) (he : Rl[e]? = some p) (j : Nat) (x : Int) : CS w (W.setCell ⟨p.1, j, none⟩ (.int .i64 x)) g6 g nf E T C vl vh Rl Rh (fun i => if i = e then (Ll e).set j x else Ll i) Lh := by
  obtain ⟨c, hc⟩ := h.lo.row_ty he
  refine ⟨blk_far h.tb (fun hh => ?_) _, blk_far h.rb (fun hh => ?_) _, h.lo.put e p he j x, h.lo.put_far h.hi h.ap e p he j _, h.ap, h.oo, below_set h.bl (Kd.R_base (h.lo.row e p he) p.1 (own_slice _ _ _)), h.gg, h.ne⟩
  · have hh : g = p.1 := hh
    rw [← hh] at hc; exact cells_ne h.tb hc (by decide)
  · have hh : g6 = p.1 := hh
    rw [← hh] at hc; exact cells_ne h.rb hc (by decide)
theorem CS.puth (h : CS w W g6 g nf E T C vl vh Rl Rh Ll Lh) (e : Nat) (p : Nat × Nat) (he : Rh[e]? = some p) (j : Nat) (x : Int) : CS w (W.setCell ⟨p.1, j, none⟩ (.int .i64 x)) g6 g nf E T C vl vh Rl Rh Ll (fun i => if i = e then (Lh e).set j x else Lh i) := by
  obtain ⟨c, hc⟩ := h.hi.row_ty he
  refine ⟨blk_far h.tb (fun hh => ?_) _, blk_far h.rb (fun hh => ?_) _, h.hi.put_far h.lo (fun i j p q hi hj => (h.ap j i q p hj hi).symm) e p he j _, h.hi.put e p he j x, h.ap, h.oo, below_set h.bl (Kd.R_base (h.hi.row e p he) p.1 (own_slice _ _ _)), h.gg, h.ne⟩
  · have hh : g = p.1 := hh
    rw [← hh] at hc; exact cells_ne h.tb hc (by decide)
  · have hh : g6 = p.1 := hh
    rw [← hh] at hc; exact cells_ne h.rb hc (by decide)
theorem CS.toRD {ne : Nat} (h : CS w W g6 g nf E T C vl vh Rl Rh Ll Lh) (hl : Rl.length = ne + 1) (hh : Rh.length = ne + 1) : ∃ gl cl gh ch, vl = .slice (some ⟨gl, 0, none⟩) (ne + 1) cl ∧ vh = .slice (some ⟨gh, 0, none⟩) (ne + 1) ch ∧
    RD W g gl cl gh ch ne nf (fun e => (Rl.getD e (0, 0)).1) (fun e => (Rl.getD e (0, 0)).2) (fun e => (Rh.getD e (0, 0)).1) (fun e => (Rh.getD e (0, 0)).2) E T C (fun e j => rd (Ll e) (j : Int)) (fun e j => rd (Lh e) (j : Int)) := by
  obtain ⟨gl, cl, hvl, hcl⟩ := h.lo.cells hl
  obtain ⟨gh, ch, hvh, hch⟩ := h.hi.cells hh
  refine ⟨gl, cl, gh, ch, hvl, hvh, ?_⟩
  have tb := h.tb
  rw [hvl, hvh] at tb
  have gl_ : ∀ (e : Nat), e ≤ ne → Rl[e]? = some (Rl.getD e (0, 0)) := fun e he => by
    rw [List.getD_eq_getElem?_getD, List.getElem?_eq_getElem (by omega)]; rfl
  have gh_ : ∀ (e : Nat), e ≤ ne → Rh[e]? = some (Rh.getD e (0, 0)) := fun e he => by
    rw [List.getD_eq_getElem?_getD, List.getElem?_eq_getElem (by omega)]; rfl
  refine ⟨(blk_cell tb 0).trans rfl, (blk_cell tb 1).trans rfl, (blk_cell tb 2).trans rfl, (blk_cell tb 3).trans rfl, (blk_cell tb 4).trans rfl, ?_, ?_, ?_, ?_⟩
  · intro e he
    obtain ⟨p, hp, hc⟩ := hcl e he
    rw [gl_ e he] at hp
    injection hp with hp
    rw [hp]; exact hc
  · intro e he
    obtain ⟨p, hp, hc⟩ := hch e he
    rw [gh_ e he] at hp
    injection hp with hp
    rw [hp]; exact hc
  · intro e j he hj
    exact (h.lo.at_ e _ (gl_ e he) j hj).1
  · intro e j he hj
    exact (h.hi.at_ e _ (gh_ e he) j hj).1
end
theorem rows_info : (Try.prog.info? 34).map (fun i => (i.zero, i.size, i.bytes)) = some (some (.slice none 0 0), 1, 24) := by kernel_rfl
/-- The costs that stand in a half: those of fewer eggs, and of the same eggs and fewer floors. -/
def tv (E T C : Int) (s e n e' j : Nat) : Int := if e' = 0 then 0 else if e' < e ∨ (e' = e ∧ j < n) then cst E T C e' j s else 0
structure TV (L : Nat → List Int) (E T C : Int) (ne nf s e n : Nat) : Prop where
  v : ∀ (e' j : Nat), e' ≤ ne → j ≤ nf → rd (L e') (j : Int) = tv E T C s e n e' j
  l : ∀ (e' : Nat), e' ≤ ne → (L e').length = nf + 1
theorem TV.start (E T C : Int) (ne nf s : Nat) : TV (fun _ => List.replicate (nf + 1) 0) E T C ne nf s 1 1 := by
  refine ⟨fun e' j he hj => ?_, fun e' _ => by simp⟩
  have h0 : rd (List.replicate (nf + 1) 0) (j : Int) = 0 := by
    unfold rd
    rw [Int.toNat_natCast, List.getD_eq_getElem?_getD, List.getElem?_replicate]
    split <;> rfl
  rw [h0]
  unfold tv
  split
  · rfl
  · split
    · have : j = 0 := by omega
      subst this; rw [cst_zero]
    · rfl
theorem TV.next {L : Nat → List Int} {E T C : Int} {ne nf s e : Nat} (h : TV L E T C ne nf s e (nf + 1)) : TV L E T C ne nf s (e + 1) 1 := by
  refine ⟨fun e' j he hj => ?_, h.l⟩
  rw [h.v e' j he hj]
  unfold tv
  by_cases h0 : e' = 0
  · rw [if_pos h0, if_pos h0]
  · rw [if_neg h0, if_neg h0]
    by_cases h1 : e' < e ∨ (e' = e ∧ j < nf + 1)
    · rw [if_pos h1, if_pos (by omega)]
    · rw [if_neg h1]
      by_cases h2 : e' < e + 1 ∨ (e' = e + 1 ∧ j < 1)
      · rw [if_pos h2]
        have : j = 0 := by omega
        subst this; rw [cst_zero]
      · rw [if_neg h2]
theorem TV.put {L : Nat → List Int} {E T C : Int} {ne nf s e n : Nat} (h : TV L E T C ne nf s e n) (he : 1 ≤ e) (hne : e ≤ ne) (hn : n ≤ nf) : TV (fun i => if i = e then (L e).set n (cst E T C e n s) else L i) E T C ne nf s e (n + 1) := by
  have hle := h.l e hne
  refine ⟨fun e' j he' hj => ?_, fun e' he' => ?_⟩
  · show rd (if e' = e then (L e).set n (cst E T C e n s) else L e') (j : Int) = _
    by_cases h1 : e' = e
    · subst h1
      rw [if_pos rfl]
      by_cases h2 : j = n
      · subst h2
        have : rd ((L e').set j (cst E T C e' j s)) (j : Int) = cst E T C e' j s := by
          unfold rd
          rw [Int.toNat_natCast, List.getD_eq_getElem?_getD, List.getElem?_set_self (by omega)]; rfl
        rw [this]
        unfold tv
        rw [if_neg (by omega), if_pos (by omega)]
      · have : rd ((L e').set n (cst E T C e' n s)) (j : Int) = rd (L e') (j : Int) := by
          unfold rd
          rw [Int.toNat_natCast, List.getD_eq_getElem?_getD, List.getD_eq_getElem?_getD, List.getElem?_set_ne (by omega)]
        rw [this, h.v e' j he' hj]
        unfold tv
        rw [if_neg (show ¬ e' = 0 by omega), if_neg (show ¬ e' = 0 by omega)]
        by_cases h3 : e' < e' ∨ (e' = e' ∧ j < n)
        · rw [if_pos h3, if_pos (show e' < e' ∨ (e' = e' ∧ j < n + 1) by omega)]
        · rw [if_neg h3, if_neg (show ¬ (e' < e' ∨ (e' = e' ∧ j < n + 1)) by omega)]
    · rw [if_neg h1, h.v e' j he' hj]
      unfold tv
      by_cases h4 : e' = 0
      · rw [if_pos h4, if_pos h4]
      · rw [if_neg h4, if_neg h4]
        by_cases h3 : e' < e ∨ (e' = e ∧ j < n)
        · rw [if_pos h3, if_pos (show e' < e ∨ (e' = e ∧ j < n + 1) by omega)]
        · rw [if_neg h3, if_neg (show ¬ (e' < e ∨ (e' = e ∧ j < n + 1)) by omega)]
  · show (if e' = e then (L e).set n (cst E T C e n s) else L e').length = nf + 1
    by_cases h1 : e' = e
    · rw [if_pos h1, List.length_set]; exact hle
    · rw [if_neg h1]; exact h.l e' he'
theorem TV.knows {Ll Lh : Nat → List Int} {E T C : Int} {ne nf e n nl : Nat} (hl : TV Ll E T C ne nf 0 e nl) (hh : TV Lh E T C ne nf 1 e n) (he : 1 ≤ e) (hne : e ≤ ne) (hn : n ≤ nf) (hnl : n ≤ nl) : Knows E T C (fun e j => rd (Ll e) (j : Int)) (fun e j => rd (Lh e) (j : Int)) e n := by
  refine ⟨fun f hf hfn hcan => ?_, fun f hf hfn => ?_⟩
  · show rd (Lh (e - 1)) ((f - 1 : Nat) : Int) = _
    rw [hh.v (e - 1) (f - 1) (by omega) (by omega)]
    unfold tv
    by_cases h0 : e - 1 = 0
    · rw [if_pos h0]
      have : f - 1 = 0 := by omega
      rw [this, cst_zero]
    · rw [if_neg h0, if_pos (by omega)]
  · show rd (Ll e) ((n - f : Nat) : Int) = _
    rw [hl.v e (n - f) (by omega) (by omega)]
    unfold tv
    rw [if_neg (by omega), if_pos (by omega)]
section
variable {w W : World} {g6 g nf ne gl cl gh ch : Nat} {E T C : Int} {Rl Rh : List (Nat × Nat)} {Ll Lh : Nat → List Int}
theorem CS.rd2 (h : CS w W g6 g nf E T C (.slice (some ⟨gl, 0, none⟩) (ne + 1) cl) (.slice (some ⟨gh, 0, none⟩) (ne + 1) ch) Rl Rh Ll Lh) (hl : Rl.length = ne + 1) (hh : Rh.length = ne + 1) : 
    RD W g gl cl gh ch ne nf (fun e => (Rl.getD e (0, 0)).1) (fun e => (Rl.getD e (0, 0)).2) (fun e => (Rh.getD e (0, 0)).1) (fun e => (Rh.getD e (0, 0)).2) E T C (fun e j => rd (Ll e) (j : Int)) (fun e j => rd (Lh e) (j : Int)) := by
  obtain ⟨gl', cl', gh', ch', hvl, hvh, hr⟩ := h.toRD hl hh
  simp only [Value.slice.injEq, Option.some.injEq, Addr.mk.injEq] at hvl hvh
  obtain ⟨⟨rfl, _⟩, _, rfl⟩ := hvl
  obtain ⟨⟨rfl, _⟩, _, rfl⟩ := hvh
  exact hr
theorem CS.rowl (h : CS w W g6 g nf E T C (.slice (some ⟨gl, 0, none⟩) (ne + 1) cl) (.slice (some ⟨gh, 0, none⟩) (ne + 1) ch) Rl Rh Ll Lh) (hl : Rl.length = ne + 1) (hh : Rh.length = ne + 1) {e : Nat} (he : e ≤ ne) {p : Nat × Nat} (hp : Rl[e]? = some p) : W.cell? ⟨gl, e, none⟩ = some (.slice (some ⟨p.1, 0, none⟩) (nf + 1) p.2) := by
  have h1 := (h.rd2 hl hh).lr e he
  rw [List.getD_eq_getElem?_getD, hp] at h1
  exact h1
theorem CS.rowh (h : CS w W g6 g nf E T C (.slice (some ⟨gl, 0, none⟩) (ne + 1) cl) (.slice (some ⟨gh, 0, none⟩) (ne + 1) ch) Rl Rh Ll Lh) (hl : Rl.length = ne + 1) (hh : Rh.length = ne + 1) {e : Nat} (he : e ≤ ne) {p : Nat × Nat} (hp : Rh[e]? = some p) : W.cell? ⟨gh, e, none⟩ = some (.slice (some ⟨p.1, 0, none⟩) (nf + 1) p.2) := by
  have h1 := (h.rd2 hl hh).hr e he
  rw [List.getD_eq_getElem?_getD, hp] at h1
  exact h1
theorem CS.low_call {e n : Nat} (h : CS w W g6 g nf E T C (.slice (some ⟨gl, 0, none⟩) (ne + 1) cl) (.slice (some ⟨gh, 0, none⟩) (ne + 1) ch) Rl Rh Ll Lh) (hl : Rl.length = ne + 1) (hh : Rh.length = ne + 1) (tl : TV Ll E T C ne nf 0 e n) (th : TV Lh E T C ne nf 1 e n) (he : 1 ≤ e) (hne : e ≤ ne) (hne2 : ne ≤ 10) (h1 : 1 ≤ n) (hn : n ≤ nf) (hnf : nf ≤ 60) (hp : Prs E T C) :
    Calls Try.prog 39 #[.pointer (some ⟨g, 0, none⟩), .int .i64 e, .int .i64 n, .int .i64 0] W fun e' w' => e' = .returned (.int .i64 (cst E T C e n 0)) ∧ ∃ m, w' = W.drewN m := by
  have hc := least_calls e n 0 W (h.rd2 hl hh) he hne hne2 hn hnf (by omega) hp (TV.knows tl th he hne hn (Nat.le_refl _))
  rw [bestL_cst hp e n 0 (by omega) he h1, if_neg (show ¬ (0 : Nat) = 1 by decide)] at hc
  exact hc
theorem CS.high_call {e n : Nat} (h : CS w W g6 g nf E T C (.slice (some ⟨gl, 0, none⟩) (ne + 1) cl) (.slice (some ⟨gh, 0, none⟩) (ne + 1) ch) Rl Rh Ll Lh) (hl : Rl.length = ne + 1) (hh : Rh.length = ne + 1) (tl : TV Ll E T C ne nf 0 e (n + 1)) (th : TV Lh E T C ne nf 1 e n) (he : 1 ≤ e) (hne : e ≤ ne) (hne2 : ne ≤ 10) (h1 : 1 ≤ n) (hn : n ≤ nf) (hnf : nf ≤ 60) (hp : Prs E T C) :
    Calls Try.prog 39 #[.pointer (some ⟨g, 0, none⟩), .int .i64 e, .int .i64 n, .int .i64 ((n : Int) + 1)] W fun e' w' => e' = .returned (.int .i64 (cst E T C e n 1)) ∧ ∃ m, w' = W.drewN m := by
  have hc := least_calls e n 1 W (h.rd2 hl hh) he hne hne2 hn hnf (by omega) hp (TV.knows tl th he hne hn (Nat.le_succ _))
  rw [bestL_cst hp e n 1 (by omega) he h1, if_pos rfl] at hc
  exact hc
theorem CS.out (h : CS w W g6 g nf E T C (.slice (some ⟨gl, 0, none⟩) (ne + 1) cl) (.slice (some ⟨gh, 0, none⟩) (ne + 1) ch) Rl Rh Ll Lh) (h6 : w.heap.size ≤ g6) (a b c d e : Value) :
    Side (((((W.setCell ⟨g6, 0, none⟩ a).setCell ⟨g6, 1, none⟩ b).setCell ⟨g6, 2, none⟩ c).setCell ⟨g6, 3, none⟩ d).setCell ⟨g6, 4, none⟩ e) w.heap.size nf (.slice (some ⟨gl, 0, none⟩) (ne + 1) cl) Rl Ll ∧ Side (((((W.setCell ⟨g6, 0, none⟩ a).setCell ⟨g6, 1, none⟩ b).setCell ⟨g6, 2, none⟩ c).setCell ⟨g6, 3, none⟩ d).setCell ⟨g6, 4, none⟩ e) w.heap.size nf (.slice (some ⟨gh, 0, none⟩) (ne + 1) ch) Rh Lh ∧ Below w.heap.size w (((((W.setCell ⟨g6, 0, none⟩ a).setCell ⟨g6, 1, none⟩ b).setCell ⟨g6, 2, none⟩ c).setCell ⟨g6, 3, none⟩ d).setCell ⟨g6, 4, none⟩ e) ∧ (((((W.setCell ⟨g6, 0, none⟩ a).setCell ⟨g6, 1, none⟩ b).setCell ⟨g6, 2, none⟩ c).setCell ⟨g6, 3, none⟩ d).setCell ⟨g6, 4, none⟩ e).heap[g6]? = some (.cells #[a, b, c, d, e] 42 (0, 0)) := by
  have t0 := h.rb
  have t1 := blk_set t0 0 a
  have t2 := blk_set t1 1 b
  have t3 := blk_set t2 2 c
  have t4 := blk_set t3 3 d
  exact ⟨((((h.lo.far t0 (by decide) (by decide) 0 a).far t1 (by decide) (by decide) 1 b).far t2 (by decide) (by decide) 2 c).far t3 (by decide) (by decide) 3 d).far t4 (by decide) (by decide) 4 e, ((((h.hi.far t0 (by decide) (by decide) 0 a).far t1 (by decide) (by decide) 1 b).far t2 (by decide) (by decide) 2 c).far t3 (by decide) (by decide) 3 d).far t4 (by decide) (by decide) 4 e, below_set (below_set (below_set (below_set (below_set h.bl h6) h6) h6) h6) h6, blk_put t4 4 e rfl⟩
end
set_option maxHeartbeats 16000000 in
set_option maxRecDepth 100000 in
theorem csMake_calls (E T C : Int) (ne nf : Nat) (w : World) (hne : ne ≤ 10) (hnf : nf ≤ 60) (hp : Prs E T C) :
    Calls Try.prog 26 #[.agg #[.int .i64 E, .int .i64 T, .int .i64 C], .int .i64 ne, .int .i64 nf] w fun e w' => ∃ vl vh Rl Rh Ll Lh, e = .returned (.agg #[.int .i64 E, .int .i64 T, .int .i64 C, vl, vh]) ∧ Side w' w.heap.size nf vl Rl Ll ∧ Side w' w.heap.size nf vh Rh Lh ∧ Rl.length = ne + 1 ∧ Rh.length = ne + 1 ∧ TV Ll E T C ne nf 0 (ne + 1) 1 ∧ TV Lh E T C ne nf 1 (ne + 1) 1 ∧ Below w.heap.size w w' := by
  have HP := Aside0.mk hp
  clear hp
  have HI0 : Aside0 (CS w (((w.alloc (.cells #[.int .i64 E, .int .i64 T, .int .i64 C] 28 (0, 0))).alloc (.cells #[.int .i64 0, .int .i64 0, .int .i64 0, .slice none 0 0, .slice none 0 0] 42 (0, 0))).alloc (.cells #[.int .i64 E, .int .i64 T, .int .i64 C, .slice none 0 0, .slice none 0 0] 42 (0, 0))) (w.heap.size + 1) (w.heap.size + 1 + 1) nf E T C (.slice none 0 0) (.slice none 0 0) [] [] (fun _ => List.replicate (nf + 1) 0) (fun _ => List.replicate (nf + 1) 0)) := by
    refine ⟨⟨?_, ?_, Side.nil _ _ _ _, Side.nil _ _ _ _, fun i j p q hi => by simp at hi, fun k hk => by simp [Value.ownBlock] at hk, below_alloc (below_alloc (below_alloc (Below.refl w.heap.size w) _) _) _, by omega, by omega⟩⟩
    · have := blk_new ((w.alloc (.cells #[.int .i64 E, .int .i64 T, .int .i64 C] 28 (0, 0))).alloc (.cells #[.int .i64 0, .int .i64 0, .int .i64 0, .slice none 0 0, .slice none 0 0] 42 (0, 0))) (.cells #[.int .i64 E, .int .i64 T, .int .i64 C, .slice none 0 0, .slice none 0 0] 42 (0, 0))
      simpa using this
    · refine blk_alloc ?_ _
      have := blk_new (w.alloc (.cells #[.int .i64 E, .int .i64 T, .int .i64 C] 28 (0, 0))) (.cells #[.int .i64 0, .int .i64 0, .int .i64 0, .slice none 0 0, .slice none 0 0] 42 (0, 0))
      simpa using this
  go_enter Try.func26, Try.ntmps26
  go_wp2
  have HG6 : Aside0 (w.heap.size ≤ w.heap.size + 1) := ⟨by omega⟩
  generalize w.heap.size + 1 + 1 = g at HI0 ⊢
  generalize w.heap.size + 1 = g6 at HI0 HG6 ⊢
  go_loopg [8] (ne + 1) (fun gg v8 wr => ∃ (e : Nat) (vl vh : Value) (Rl Rh : List (Nat × Nat)), e ≤ ne + 1 ∧ ne + 1 - e ≤ gg ∧ v8 = .int .i64 e ∧ Aside0 (CS w wr g6 g nf E T C vl vh Rl Rh (fun _ => List.replicate (nf + 1) 0) (fun _ => List.replicate (nf + 1) 0)) ∧ Aside0 (Rl.length = e ∧ Rh.length = e))
  case atStart => exact ⟨0, _, _, [], [], by omega, by omega, rfl, HI0, ⟨rfl, rfl⟩⟩
  case round =>
    clear HI0
    obtain ⟨e, vl, vh, Rl, Rh, he1, hgg, rfl, HI, HL⟩ := hrel
    by_cases hle : e ≤ ne
    · have hlez : (e : Int) ≤ (ne : Int) := by omega
      have hw1 : IntKind.i64.wrap ((nf : Int) + 1) = (nf : Int) + 1 := by rw [i64_w]; unfold wrap64; omega
      go_wp2
      have hxa : wr.cell? ⟨g, 3, none⟩ = some vl := (blk_cell HI.out.tb 3).trans rfl
      have HDa := Aside0.mk (CS.below HI.out (below_drew1 (Below.refl wr.heap.size wr)))
      have HLNa : Aside0 ((Rl.map (fun p => [Value.slice (some ⟨p.1, 0, none⟩) (nf + 1) p.2])).length = e) := ⟨by rw [List.length_map]; exact HL.out.1⟩
      refine start_ (n := 9) (S := fun w' => w'.cell? ⟨g, 3, none⟩ = some vl) (ds := [6, 8]) #[false, false, false, false, false, false, false, false, false] (by kernel_rfl) rfl rfl (hxa) (fun hHeld => ?_)
      refine pure_ (i := 0) (N := some 18) (v := ?_) (a' := ?_) #[true, false, false, false, false, false, false, false, false] rfl rfl (by kernel_rfl) (fun _ _ _ h => h) (Or.inl ⟨by rfl, ?_⟩) ?_ ?_
      rotate_left
      · intro w'
        go_simp
        with_reducible rfl
      rotate_left
      · simp only [Act.put, List.setIfInBounds_toArray, List.set_cons_zero, List.set_cons_succ, i64_w, i32_w]
        rfl
      refine pure_ (i := 2) (N := some 20) (v := ?_) (a' := ?_) #[true, false, true, false, false, false, false, false, false] rfl rfl (by kernel_rfl) (fun _ _ _ h => h) (Or.inl ⟨by rfl, ?_⟩) ?_ ?_
      rotate_left
      · intro w'
        go_simp
        with_reducible rfl
      rotate_left
      · simp only [Act.put, List.setIfInBounds_toArray, List.set_cons_zero, List.set_cons_succ, i64_w, i32_w]
        rfl
      refine pure_ (i := 3) (N := some 21) (v := ?_) (a' := ?_) #[true, false, true, true, false, false, false, false, false] rfl rfl (by kernel_rfl) (fun _ _ _ h => h) (Or.inl ⟨by rfl, ?_⟩) ?_ ?_
      rotate_left
      · intro w'
        go_simp
        with_reducible rfl
      rotate_left
      · simp only [Act.put, List.setIfInBounds_toArray, List.set_cons_zero, List.set_cons_succ, i64_w, i32_w]
        rfl
      refine take_ (i := 1) (N := some 19) (v := ?_) (a' := ?_) #[true, true, true, true, false, false, false, false, false] rfl rfl (by kernel_rfl) (fun _ _ _ h => h) (Or.inl ⟨by rfl, ?_⟩) hHeld ?_ ?_
      rotate_left
      · intro w' s0
        go_simp
        with_reducible rfl
      rotate_left
      · simp only [Act.put, List.setIfInBounds_toArray, List.set_cons_zero, List.set_cons_succ, i64_w, i32_w]
        rfl
      refine one_ (i := 4) (N := some 22) #[true, true, true, true, true, false, false, false, false] rfl rfl (by kernel_rfl) (by decide) (fun K hK => ?_)
      refine Kd.R_make_step (Kd.int .i64) _ 3 (by rfl) (N := 22) rfl 34 _ _ rfl _ rfl rfl Try.underlying34 (.int .i64 0) 8 info3 rfl (by decide) (by omega) 0 (ok := fun _ => True) (okp := fun _ => True) rfl (fun _ hk => hk) trivial ?h0 ?h1 (Below.refl _ _) (Nat.le_refl _) ?_
      case h0 => omega
      case h1 => omega
      intro v1 w3a hoa hba hgr_ hnew_
      have hn1 : ((nf : Int) + 1).toNat = nf + 1 := by omega
      rw [hn1] at hoa
      obtain ⟨gra, cra, hf, _⟩ := Kd.R_form hoa (by simp)
      rw [List.length_replicate] at hf
      subst hf
      clear hgr_ hnew_ hn1
      refine hK.out _ _ ((blk_cell (blk_below HDa.out.tb hba) 3).trans rfl) (fun hHeld => ?_)
      clear hK K
      refine norm_ (a' := ?_) ?_ ?_
      rotate_left
      · show Act.put _ (some 22) _ = _
        simp only [Act.put, List.setIfInBounds_toArray, List.set_cons_zero, List.set_cons_succ, i64_w, i32_w]
        rfl
      refine one_ (i := 5) (N := some 23) #[true, true, true, true, true, true, false, false, false] rfl rfl (by kernel_rfl) (by decide) (fun K hK => ?_)
      refine value_ (w1 := ?_) (v := ?_) (by rfl) rfl ?_ ?_
      rotate_left 2
      · go_simp
        constructor
        · rfl
        · rfl
      refine hK.out _ _ ((blk_cell (blk_alloc (blk_below HDa.out.tb hba) _) 3).trans rfl) (fun hHeld => ?_)
      clear hK K
      refine norm_ (a' := ?_) ?_ ?_
      rotate_left
      · show Act.put _ (some 23) _ = _
        simp only [Act.put, List.setIfInBounds_toArray, List.set_cons_zero, List.set_cons_succ, i64_w, i32_w]
        rfl
      refine last_ (i := 6) (N := some 24) #[true, true, true, true, true, true, true, false, false] rfl rfl (by kernel_rfl) (by decide) (fun K hK => ?_)
      refine Kd.R_append_step (Kd.raw 1) (w0 := w) w.heap.size (by rfl) (.tmp 19) (.tmp 23) 40 34 (.slice none 0 0) 24 rfl Try.underlying40 rows_info rfl (by decide) (by omega) vl (Rl.map (fun p => [Value.slice (some ⟨p.1, 0, none⟩) (nf + 1) p.2])) [.slice (some ⟨gra, 0, none⟩) (nf + 1) cra] [.slice (some ⟨gra, 0, none⟩) (nf + 1) cra] (fun _ => True) (fun _ => False) rfl rfl ⟨rfl, rfl, ?one⟩ (fun _ hk => hk.elim) (fun _ _ => trivial) (Kd.raw_any (Side.own (Side.below HDa.out.lo hba))) (below_step HDa.out.bl hba) ?bs ?ln ?_
      case one => intro u hu; rw [List.mem_singleton] at hu; subst hu; rfl
      case bs => exact Nat.le_trans HDa.out.bl.size hba.size
      case ln => rw [HLNa.out]; omega
      intro v2a w4a hr hbl hg hat
      obtain ⟨g2a, c2a, hf2, _⟩ := Kd.R_form hr (by simp)
      rw [List.length_append, List.length_map, List.length_singleton] at hf2
      subst hf2
      have H3a := Aside0.mk (CS.addl HDa.out hba HDa.out.bl.size hoa hr hg hbl hat)
      have t4 := blk_grown (blk_below HDa.out.tb hba) hg (fun he => (CS.lnot HDa.out).1 he.symm)
      have hya : w4a.cell? ⟨g, 3, none⟩ = some vl := (blk_cell t4 3).trans rfl
      have hza := blk_frozen t4 3
      clear t4 hr hbl hg hat
      refine hK.out _ _ ?_
      clear hK K
      refine norm_ (a' := ?_) ?_ ?_
      rotate_left
      · show Act.put _ (some 24) _ = _
        simp only [Act.put, List.setIfInBounds_toArray, List.set_cons_zero, List.set_cons_succ, i64_w, i32_w]
        rfl
      refine pure_ (i := 7) (N := some 25) (v := ?_) (a' := ?_) #[true, true, true, true, true, true, true, true, false] rfl rfl (by kernel_rfl) (fun _ _ _ h => h) (Or.inl ⟨by rfl, ?_⟩) ?_ ?_
      rotate_left
      · intro w'
        go_simp
        with_reducible rfl
      rotate_left
      · simp only [Act.put, List.setIfInBounds_toArray, List.set_cons_zero, List.set_cons_succ, i64_w, i32_w]
        rfl
      refine last_ (i := 8) (N := none) #[true, true, true, true, true, true, true, true, true] rfl rfl (by kernel_rfl) (by decide) (fun K hK => ?_)
      refine skip_ (w1 := ?_) (by rfl) rfl ?_ ?_
      rotate_left
      · go_simp
        rfl
      refine hK.out _ _ ?_
      clear hK K
      refine done_ (by kernel_rfl) ?_
      simp only [ite_self] at H3a
      clear hxa HDa HLNa hya hza hba hoa
      go_wp2
      clear HI
      generalize (w4a.setCell ⟨g, 3, none⟩ (.slice (some ⟨g2a, 0, none⟩) (Rl.length + 1) c2a)) = wb at H3a ⊢
      have hxb : wb.cell? ⟨g, 4, none⟩ = some vh := (blk_cell H3a.out.tb 4).trans rfl
      have HDb := Aside0.mk (CS.below H3a.out (below_drew1 (Below.refl wb.heap.size wb)))
      have HLNb : Aside0 ((Rh.map (fun p => [Value.slice (some ⟨p.1, 0, none⟩) (nf + 1) p.2])).length = e) := ⟨by rw [List.length_map]; exact HL.out.2⟩
      refine start_ (n := 9) (S := fun w' => w'.cell? ⟨g, 4, none⟩ = some vh) (ds := [6, 8]) #[false, false, false, false, false, false, false, false, false] (by kernel_rfl) rfl rfl (hxb) (fun hHeld => ?_)
      refine pure_ (i := 0) (N := some 26) (v := ?_) (a' := ?_) #[true, false, false, false, false, false, false, false, false] rfl rfl (by kernel_rfl) (fun _ _ _ h => h) (Or.inl ⟨by rfl, ?_⟩) ?_ ?_
      rotate_left
      · intro w'
        go_simp
        with_reducible rfl
      rotate_left
      · simp only [Act.put, List.setIfInBounds_toArray, List.set_cons_zero, List.set_cons_succ, i64_w, i32_w]
        rfl
      refine pure_ (i := 2) (N := some 28) (v := ?_) (a' := ?_) #[true, false, true, false, false, false, false, false, false] rfl rfl (by kernel_rfl) (fun _ _ _ h => h) (Or.inl ⟨by rfl, ?_⟩) ?_ ?_
      rotate_left
      · intro w'
        go_simp
        with_reducible rfl
      rotate_left
      · simp only [Act.put, List.setIfInBounds_toArray, List.set_cons_zero, List.set_cons_succ, i64_w, i32_w]
        rfl
      refine pure_ (i := 3) (N := some 29) (v := ?_) (a' := ?_) #[true, false, true, true, false, false, false, false, false] rfl rfl (by kernel_rfl) (fun _ _ _ h => h) (Or.inl ⟨by rfl, ?_⟩) ?_ ?_
      rotate_left
      · intro w'
        go_simp
        with_reducible rfl
      rotate_left
      · simp only [Act.put, List.setIfInBounds_toArray, List.set_cons_zero, List.set_cons_succ, i64_w, i32_w]
        rfl
      refine take_ (i := 1) (N := some 27) (v := ?_) (a' := ?_) #[true, true, true, true, false, false, false, false, false] rfl rfl (by kernel_rfl) (fun _ _ _ h => h) (Or.inl ⟨by rfl, ?_⟩) hHeld ?_ ?_
      rotate_left
      · intro w' s0
        go_simp
        with_reducible rfl
      rotate_left
      · simp only [Act.put, List.setIfInBounds_toArray, List.set_cons_zero, List.set_cons_succ, i64_w, i32_w]
        rfl
      refine one_ (i := 4) (N := some 30) #[true, true, true, true, true, false, false, false, false] rfl rfl (by kernel_rfl) (by decide) (fun K hK => ?_)
      refine Kd.R_make_step (Kd.int .i64) _ 3 (by rfl) (N := 30) rfl 34 _ _ rfl _ rfl rfl Try.underlying34 (.int .i64 0) 8 info3 rfl (by decide) (by omega) 0 (ok := fun _ => True) (okp := fun _ => True) rfl (fun _ hk => hk) trivial ?h0 ?h1 (Below.refl _ _) (Nat.le_refl _) ?_
      case h0 => omega
      case h1 => omega
      intro v1 w3b hob hbb hgr_ hnew_
      have hn1 : ((nf : Int) + 1).toNat = nf + 1 := by omega
      rw [hn1] at hob
      obtain ⟨grb, crb, hf, _⟩ := Kd.R_form hob (by simp)
      rw [List.length_replicate] at hf
      subst hf
      clear hgr_ hnew_ hn1
      refine hK.out _ _ ((blk_cell (blk_below HDb.out.tb hbb) 4).trans rfl) (fun hHeld => ?_)
      clear hK K
      refine norm_ (a' := ?_) ?_ ?_
      rotate_left
      · show Act.put _ (some 30) _ = _
        simp only [Act.put, List.setIfInBounds_toArray, List.set_cons_zero, List.set_cons_succ, i64_w, i32_w]
        rfl
      refine one_ (i := 5) (N := some 31) #[true, true, true, true, true, true, false, false, false] rfl rfl (by kernel_rfl) (by decide) (fun K hK => ?_)
      refine value_ (w1 := ?_) (v := ?_) (by rfl) rfl ?_ ?_
      rotate_left 2
      · go_simp
        constructor
        · rfl
        · rfl
      refine hK.out _ _ ((blk_cell (blk_alloc (blk_below HDb.out.tb hbb) _) 4).trans rfl) (fun hHeld => ?_)
      clear hK K
      refine norm_ (a' := ?_) ?_ ?_
      rotate_left
      · show Act.put _ (some 31) _ = _
        simp only [Act.put, List.setIfInBounds_toArray, List.set_cons_zero, List.set_cons_succ, i64_w, i32_w]
        rfl
      refine last_ (i := 6) (N := some 32) #[true, true, true, true, true, true, true, false, false] rfl rfl (by kernel_rfl) (by decide) (fun K hK => ?_)
      refine Kd.R_append_step (Kd.raw 1) (w0 := w) w.heap.size (by rfl) (.tmp 27) (.tmp 31) 40 34 (.slice none 0 0) 24 rfl Try.underlying40 rows_info rfl (by decide) (by omega) vh (Rh.map (fun p => [Value.slice (some ⟨p.1, 0, none⟩) (nf + 1) p.2])) [.slice (some ⟨grb, 0, none⟩) (nf + 1) crb] [.slice (some ⟨grb, 0, none⟩) (nf + 1) crb] (fun _ => True) (fun _ => False) rfl rfl ⟨rfl, rfl, ?one⟩ (fun _ hk => hk.elim) (fun _ _ => trivial) (Kd.raw_any (Side.own (Side.below HDb.out.hi hbb))) (below_step HDb.out.bl hbb) ?bs ?ln ?_
      case one => intro u hu; rw [List.mem_singleton] at hu; subst hu; rfl
      case bs => exact Nat.le_trans HDb.out.bl.size hbb.size
      case ln => rw [HLNb.out]; omega
      intro v2b w4b hr hbl hg hat
      obtain ⟨g2b, c2b, hf2, _⟩ := Kd.R_form hr (by simp)
      rw [List.length_append, List.length_map, List.length_singleton] at hf2
      subst hf2
      have H3b := Aside0.mk (CS.addh HDb.out hbb HDb.out.bl.size hob hr hg hbl hat)
      have t4 := blk_grown (blk_below HDb.out.tb hbb) hg (fun he => (CS.lnot HDb.out).2.1 he.symm)
      have hyb : w4b.cell? ⟨g, 4, none⟩ = some vh := (blk_cell t4 4).trans rfl
      have hzb := blk_frozen t4 4
      clear t4 hr hbl hg hat
      refine hK.out _ _ ?_
      clear hK K
      refine norm_ (a' := ?_) ?_ ?_
      rotate_left
      · show Act.put _ (some 32) _ = _
        simp only [Act.put, List.setIfInBounds_toArray, List.set_cons_zero, List.set_cons_succ, i64_w, i32_w]
        rfl
      refine pure_ (i := 7) (N := some 33) (v := ?_) (a' := ?_) #[true, true, true, true, true, true, true, true, false] rfl rfl (by kernel_rfl) (fun _ _ _ h => h) (Or.inl ⟨by rfl, ?_⟩) ?_ ?_
      rotate_left
      · intro w'
        go_simp
        with_reducible rfl
      rotate_left
      · simp only [Act.put, List.setIfInBounds_toArray, List.set_cons_zero, List.set_cons_succ, i64_w, i32_w]
        rfl
      refine last_ (i := 8) (N := none) #[true, true, true, true, true, true, true, true, true] rfl rfl (by kernel_rfl) (by decide) (fun K hK => ?_)
      refine skip_ (w1 := ?_) (by rfl) rfl ?_ ?_
      rotate_left
      · go_simp
        rfl
      refine hK.out _ _ ?_
      clear hK K
      refine done_ (by kernel_rfl) ?_
      simp only [ite_self] at H3b
      clear hxb HDb HLNb hyb hzb hbb hob
      go_wp2
      go_roundg (ne + 1 - (e + 1))
      case measure => omega
      case rel => exact ⟨e + 1, _, _, Rl ++ [(gra, cra)], Rh ++ [(grb, crb)], by omega, by omega, by go_num, H3b, ⟨by rw [List.length_append, HL.out.1]; rfl, by rw [List.length_append, HL.out.2]; rfl⟩⟩
    · have hlez : ¬ (e : Int) ≤ (ne : Int) := by omega
      obtain rfl : e = ne + 1 := by omega
      obtain ⟨gl, cl, gh, ch, rfl, rfl, _⟩ := CS.toRD HI.out HL.out.1 HL.out.2
      have HT : Aside0 (TV (fun _ => List.replicate (nf + 1) 0) E T C ne nf 0 1 1 ∧ TV (fun _ => List.replicate (nf + 1) 0) E T C ne nf 1 1 1) := ⟨TV.start _ _ _ _ _ _, TV.start _ _ _ _ _ _⟩
      go_wp2
      go_loopg [9] (ne + 1) (fun gg v9 wr => ∃ (e : Nat) (Ll Lh : Nat → List Int), 1 ≤ e ∧ e ≤ ne + 1 ∧ ne + 1 - e ≤ gg ∧ v9 = .int .i64 e ∧ Aside0 (CS w wr g6 g nf E T C (.slice (some ⟨gl, 0, none⟩) (ne + 1) cl) (.slice (some ⟨gh, 0, none⟩) (ne + 1) ch) Rl Rh Ll Lh) ∧ Aside0 (TV Ll E T C ne nf 0 e 1 ∧ TV Lh E T C ne nf 1 e 1))
      case atStart => exact ⟨1, _, _, by omega, by omega, by omega, rfl, HI, HT⟩
      case round =>
        clear HI HT hlez he1 hgg
        obtain ⟨e, Ll, Lh, he1, he2, hgg, rfl, HI, HT⟩ := hrel
        by_cases hle : e ≤ ne
        · have hlez : (e : Int) ≤ (ne : Int) := by omega
          have hz1 : (e : Int) < (ne : Int) + 1 := by omega
          go_wp2
          go_loopg [10] (nf + 1) (fun gg v10 wr => ∃ (n : Nat) (Ll Lh : Nat → List Int), 1 ≤ n ∧ n ≤ nf + 1 ∧ nf + 1 - n ≤ gg ∧ v10 = .int .i64 n ∧ Aside0 (CS w wr g6 g nf E T C (.slice (some ⟨gl, 0, none⟩) (ne + 1) cl) (.slice (some ⟨gh, 0, none⟩) (ne + 1) ch) Rl Rh Ll Lh) ∧ Aside0 (TV Ll E T C ne nf 0 e n ∧ TV Lh E T C ne nf 1 e n))
          case atStart => exact ⟨1, _, _, by omega, by omega, by omega, rfl, HI, HT⟩
          case round =>
          clear HI HT Ll Lh
          obtain ⟨n, Ll, Lh, hn1, hn2, hgn, rfl, HI, HT⟩ := hrel
          by_cases hnle : n ≤ nf
          case neg =>
            have hnlez : ¬ (n : Int) ≤ (nf : Int) := by omega
            obtain rfl : n = nf + 1 := by omega
            go_wp2
            go_roundg (ne + 1 - (e + 1))
            case measure => omega
            case rel => exact ⟨e + 1, _, _, by omega, by omega, by omega, by go_num, HI, ⟨TV.next HT.out.1, TV.next HT.out.2⟩⟩
          have hnlez : (n : Int) ≤ (nf : Int) := by omega
          have hz2 : (n : Int) < (nf : Int) + 1 := by omega
          have hw2 : IntKind.i64.wrap ((n : Int) + 1) = (n : Int) + 1 := by rw [i64_w]; unfold wrap64; omega
          have HTL := Aside0.mk HT.out.1
          have HTH := Aside0.mk HT.out.2
          go_wp2
          obtain ⟨pl, hpl⟩ : ∃ p, Rl[e]? = some p := ⟨_, List.getElem?_eq_getElem (by rw [HL.out.1]; omega)⟩
          have HDc := Aside0.mk (CS.below HI.out (below_drew1 (Below.refl wr.heap.size wr)))
          have HCc := Aside0.mk (CS.low_call HDc.out HL.out.1 HL.out.2 HTL.out HTH.out he1 hle hne hn1 hnle hnf HP.out)
          have hxc : wr.cell? ⟨g, 3, none⟩ = some (.slice (some ⟨gl, 0, none⟩) (ne + 1) cl) := (blk_cell HI.out.tb 3).trans rfl
          have hyc : wr.cell? ⟨gl, e, none⟩ = some (.slice (some ⟨pl.1, 0, none⟩) (nf + 1) pl.2) := CS.rowl HI.out HL.out.1 HL.out.2 hle hpl
          refine start_ (n := 11) (S := fun w' => w'.cell? ⟨g, 3, none⟩ = some (.slice (some ⟨gl, 0, none⟩) (ne + 1) cl) ∧ w'.cell? ⟨gl, e, none⟩ = some (.slice (some ⟨pl.1, 0, none⟩) (nf + 1) pl.2)) (ds := [10]) #[false, false, false, false, false, false, false, false, false, false, false] (by kernel_rfl) rfl rfl ⟨hxc, hyc⟩ (fun hHeld => ?_)
          refine pure_ (i := 0) (N := some 44) (v := ?_) (a' := ?_) #[true, false, false, false, false, false, false, false, false, false, false] rfl rfl (by kernel_rfl) (fun _ _ _ h => h) (Or.inl ⟨by rfl, ?_⟩) ?_ ?_
          rotate_left
          · intro w'
            go_simp
            with_reducible rfl
          rotate_left
          · simp only [Act.put, List.setIfInBounds_toArray, List.set_cons_zero, List.set_cons_succ, i64_w, i32_w]
            rfl
          refine pure_ (i := 2) (N := some 46) (v := ?_) (a' := ?_) #[true, false, true, false, false, false, false, false, false, false, false] rfl rfl (by kernel_rfl) (fun _ _ _ h => h) (Or.inl ⟨by rfl, ?_⟩) ?_ ?_
          rotate_left
          · intro w'
            go_simp
            with_reducible rfl
          rotate_left
          · simp only [Act.put, List.setIfInBounds_toArray, List.set_cons_zero, List.set_cons_succ, i64_w, i32_w]
            rfl
          refine pure_ (i := 5) (N := some 49) (v := ?_) (a' := ?_) #[true, false, true, false, false, true, false, false, false, false, false] rfl rfl (by kernel_rfl) (fun _ _ _ h => h) (Or.inl ⟨by rfl, ?_⟩) ?_ ?_
          rotate_left
          · intro w'
            go_simp
            with_reducible rfl
          rotate_left
          · simp only [Act.put, List.setIfInBounds_toArray, List.set_cons_zero, List.set_cons_succ, i64_w, i32_w]
            rfl
          refine pure_ (i := 6) (N := some 50) (v := ?_) (a' := ?_) #[true, false, true, false, false, true, true, false, false, false, false] rfl rfl (by kernel_rfl) (fun _ _ _ h => h) (Or.inl ⟨by rfl, ?_⟩) ?_ ?_
          rotate_left
          · intro w'
            go_simp
            with_reducible rfl
          rotate_left
          · simp only [Act.put, List.setIfInBounds_toArray, List.set_cons_zero, List.set_cons_succ, i64_w, i32_w]
            rfl
          refine pure_ (i := 7) (N := some 51) (v := ?_) (a' := ?_) #[true, false, true, false, false, true, true, true, false, false, false] rfl rfl (by kernel_rfl) (fun _ _ _ h => h) (Or.inl ⟨by rfl, ?_⟩) ?_ ?_
          rotate_left
          · intro w'
            go_simp
            with_reducible rfl
          rotate_left
          · simp only [Act.put, List.setIfInBounds_toArray, List.set_cons_zero, List.set_cons_succ, i64_w, i32_w]
            rfl
          refine take_ (i := 1) (N := some 45) (v := ?_) (a' := ?_) #[true, true, true, false, false, true, true, true, false, false, false] rfl rfl (by kernel_rfl) (fun _ _ _ h => h) (Or.inl ⟨by rfl, ?_⟩) hHeld ?_ ?_
          rotate_left
          · rintro w' ⟨s0, s1⟩
            go_simp
            with_reducible rfl
          rotate_left
          · simp only [Act.put, List.setIfInBounds_toArray, List.set_cons_zero, List.set_cons_succ, i64_w, i32_w]
            rfl
          refine pure_ (i := 3) (N := some 47) (v := ?_) (a' := ?_) #[true, true, true, true, false, true, true, true, false, false, false] rfl rfl (by kernel_rfl) (fun _ _ _ h => h) (Or.inl ⟨by rfl, ?_⟩) ?_ ?_
          rotate_left
          · intro w'
            go_simp
            with_reducible rfl
          rotate_left
          · simp only [Act.put, List.setIfInBounds_toArray, List.set_cons_zero, List.set_cons_succ, i64_w, i32_w]
            rfl
          refine take_ (i := 4) (N := some 48) (v := ?_) (a' := ?_) #[true, true, true, true, true, true, true, true, false, false, false] rfl rfl (by kernel_rfl) (fun _ _ _ h => h) (Or.inl ⟨by rfl, ?_⟩) hHeld ?_ ?_
          rotate_left
          · rintro w' ⟨s0, s1⟩
            go_simp
            with_reducible rfl
          rotate_left
          · simp only [Act.put, List.setIfInBounds_toArray, List.set_cons_zero, List.set_cons_succ, i64_w, i32_w]
            rfl
          refine one_ (i := 8) (N := some 52) #[true, true, true, true, true, true, true, true, true, false, false] rfl rfl (by kernel_rfl) (by decide) (fun K hK => ?_)
          refine goes_ Try.func39 (by kernel_rfl) rfl #[.pointer (some ⟨g, 0, none⟩), .int .i64 e, .int .i64 n, .int .i64 0] (by rfl) rfl rfl (by (try simp only [List.map_toArray, List.map_cons, List.map_nil]); first | done | rfl) ?_
          with_reducible refine (HCc.out).mono ?_
          rintro _ _ ⟨rfl, qc, rfl⟩
          refine ⟨_, rfl, ?_⟩
          have HEc := Aside0.mk (CS.below HDc.out (pw_below_drewN (Below.refl wr.drew.heap.size wr.drew) qc))
          have hcc := Side.at_ HI.out.lo e pl hpl n hnle
          have hdc := hcc.1
          have hfc := hcc.2
          clear hcc
          refine hK.out _ _ ⟨(blk_cell HEc.out.tb 3).trans rfl, CS.rowl HEc.out HL.out.1 HL.out.2 hle hpl⟩ (fun hHeld => ?_)
          clear hK K
          refine norm_ (a' := ?_) ?_ ?_
          rotate_left
          · show Act.put _ (some 52) _ = _
            simp only [Act.put, List.setIfInBounds_toArray, List.set_cons_zero, List.set_cons_succ, i64_w, i32_w]
            rfl
          refine pure_ (i := 9) (N := some 53) (v := ?_) (a' := ?_) #[true, true, true, true, true, true, true, true, true, true, false] rfl rfl (by kernel_rfl) (fun _ _ _ h => h) (Or.inl ⟨by rfl, ?_⟩) ?_ ?_
          rotate_left
          · intro w'
            go_simp
            with_reducible rfl
          rotate_left
          · simp only [Act.put, List.setIfInBounds_toArray, List.set_cons_zero, List.set_cons_succ, i64_w, i32_w]
            rfl
          refine last_ (i := 10) (N := none) #[true, true, true, true, true, true, true, true, true, true, true] rfl rfl (by kernel_rfl) (by decide) (fun K hK => ?_)
          refine skip_ (w1 := ?_) (by rfl) rfl ?_ ?_
          rotate_left
          · go_simp
            rfl
          refine hK.out _ _ ?_
          clear hK K
          refine done_ (by kernel_rfl) ?_
          have HSc := Aside0.mk (CS.putl (CS.below HI.out (pw_below_drewN (Below.refl wr.heap.size wr) (1 + qc))) e pl hpl n (cst E T C e n 0))
          clear hxc hyc hdc hfc HDc HCc HEc
          go_wp2
          have HTL2 := Aside0.mk (TV.put HTL.out he1 hle hnle)
          clear HI HTL HT
          generalize (wr.drewN (1 + qc)).setCell ⟨pl.1, n, none⟩ (.int .i64 (cst E T C e n 0)) = wb at HSc ⊢
          obtain ⟨ph, hph⟩ : ∃ p, Rh[e]? = some p := ⟨_, List.getElem?_eq_getElem (by rw [HL.out.2]; omega)⟩
          have HDd := Aside0.mk (CS.below HSc.out (below_drew1 (Below.refl wb.heap.size wb)))
          have HCd := Aside0.mk (CS.high_call HDd.out HL.out.1 HL.out.2 HTL2.out HTH.out he1 hle hne hn1 hnle hnf HP.out)
          have hxd : wb.cell? ⟨g, 4, none⟩ = some (.slice (some ⟨gh, 0, none⟩) (ne + 1) ch) := (blk_cell HSc.out.tb 4).trans rfl
          have hyd : wb.cell? ⟨gh, e, none⟩ = some (.slice (some ⟨ph.1, 0, none⟩) (nf + 1) ph.2) := CS.rowh HSc.out HL.out.1 HL.out.2 hle hph
          refine start_ (n := 13) (S := fun w' => w'.cell? ⟨g, 4, none⟩ = some (.slice (some ⟨gh, 0, none⟩) (ne + 1) ch) ∧ w'.cell? ⟨gh, e, none⟩ = some (.slice (some ⟨ph.1, 0, none⟩) (nf + 1) ph.2)) (ds := [12]) #[false, false, false, false, false, false, false, false, false, false, false, false, false] (by kernel_rfl) rfl rfl ⟨hxd, hyd⟩ (fun hHeld => ?_)
          refine pure_ (i := 0) (N := some 54) (v := ?_) (a' := ?_) #[true, false, false, false, false, false, false, false, false, false, false, false, false] rfl rfl (by kernel_rfl) (fun _ _ _ h => h) (Or.inl ⟨by rfl, ?_⟩) ?_ ?_
          rotate_left
          · intro w'
            go_simp
            with_reducible rfl
          rotate_left
          · simp only [Act.put, List.setIfInBounds_toArray, List.set_cons_zero, List.set_cons_succ, i64_w, i32_w]
            rfl
          refine pure_ (i := 2) (N := some 56) (v := ?_) (a' := ?_) #[true, false, true, false, false, false, false, false, false, false, false, false, false] rfl rfl (by kernel_rfl) (fun _ _ _ h => h) (Or.inl ⟨by rfl, ?_⟩) ?_ ?_
          rotate_left
          · intro w'
            go_simp
            with_reducible rfl
          rotate_left
          · simp only [Act.put, List.setIfInBounds_toArray, List.set_cons_zero, List.set_cons_succ, i64_w, i32_w]
            rfl
          refine pure_ (i := 5) (N := some 59) (v := ?_) (a' := ?_) #[true, false, true, false, false, true, false, false, false, false, false, false, false] rfl rfl (by kernel_rfl) (fun _ _ _ h => h) (Or.inl ⟨by rfl, ?_⟩) ?_ ?_
          rotate_left
          · intro w'
            go_simp
            with_reducible rfl
          rotate_left
          · simp only [Act.put, List.setIfInBounds_toArray, List.set_cons_zero, List.set_cons_succ, i64_w, i32_w]
            rfl
          refine pure_ (i := 6) (N := some 60) (v := ?_) (a' := ?_) #[true, false, true, false, false, true, true, false, false, false, false, false, false] rfl rfl (by kernel_rfl) (fun _ _ _ h => h) (Or.inl ⟨by rfl, ?_⟩) ?_ ?_
          rotate_left
          · intro w'
            go_simp
            with_reducible rfl
          rotate_left
          · simp only [Act.put, List.setIfInBounds_toArray, List.set_cons_zero, List.set_cons_succ, i64_w, i32_w]
            rfl
          refine pure_ (i := 7) (N := some 61) (v := ?_) (a' := ?_) #[true, false, true, false, false, true, true, true, false, false, false, false, false] rfl rfl (by kernel_rfl) (fun _ _ _ h => h) (Or.inl ⟨by rfl, ?_⟩) ?_ ?_
          rotate_left
          · intro w'
            go_simp
            with_reducible rfl
          rotate_left
          · simp only [Act.put, List.setIfInBounds_toArray, List.set_cons_zero, List.set_cons_succ, i64_w, i32_w]
            rfl
          refine pure_ (i := 8) (N := some 62) (v := ?_) (a' := ?_) #[true, false, true, false, false, true, true, true, true, false, false, false, false] rfl rfl (by kernel_rfl) (fun _ _ _ h => h) (Or.inl ⟨by rfl, ?_⟩) ?_ ?_
          rotate_left
          · intro w'
            go_simp
            with_reducible rfl
          rotate_left
          · simp only [Act.put, List.setIfInBounds_toArray, List.set_cons_zero, List.set_cons_succ, i64_w, i32_w]
            rfl
          refine pure_ (i := 9) (N := some 63) (v := ?_) (a' := ?_) #[true, false, true, false, false, true, true, true, true, true, false, false, false] rfl rfl (by kernel_rfl) (fun _ _ _ h => h) (Or.inl ⟨by rfl, ?_⟩) ?_ ?_
          rotate_left
          · intro w'
            go_simp
            with_reducible rfl
          rotate_left
          · simp only [Act.put, List.setIfInBounds_toArray, List.set_cons_zero, List.set_cons_succ, i64_w, i32_w]
            rfl
          refine take_ (i := 1) (N := some 55) (v := ?_) (a' := ?_) #[true, true, true, false, false, true, true, true, true, true, false, false, false] rfl rfl (by kernel_rfl) (fun _ _ _ h => h) (Or.inl ⟨by rfl, ?_⟩) hHeld ?_ ?_
          rotate_left
          · rintro w' ⟨s0, s1⟩
            go_simp
            with_reducible rfl
          rotate_left
          · simp only [Act.put, List.setIfInBounds_toArray, List.set_cons_zero, List.set_cons_succ, i64_w, i32_w]
            rfl
          refine pure_ (i := 3) (N := some 57) (v := ?_) (a' := ?_) #[true, true, true, true, false, true, true, true, true, true, false, false, false] rfl rfl (by kernel_rfl) (fun _ _ _ h => h) (Or.inl ⟨by rfl, ?_⟩) ?_ ?_
          rotate_left
          · intro w'
            go_simp
            with_reducible rfl
          rotate_left
          · simp only [Act.put, List.setIfInBounds_toArray, List.set_cons_zero, List.set_cons_succ, i64_w, i32_w]
            rfl
          refine take_ (i := 4) (N := some 58) (v := ?_) (a' := ?_) #[true, true, true, true, true, true, true, true, true, true, false, false, false] rfl rfl (by kernel_rfl) (fun _ _ _ h => h) (Or.inl ⟨by rfl, ?_⟩) hHeld ?_ ?_
          rotate_left
          · rintro w' ⟨s0, s1⟩
            go_simp
            with_reducible rfl
          rotate_left
          · simp only [Act.put, List.setIfInBounds_toArray, List.set_cons_zero, List.set_cons_succ, i64_w, i32_w]
            rfl
          refine one_ (i := 10) (N := some 64) #[true, true, true, true, true, true, true, true, true, true, true, false, false] rfl rfl (by kernel_rfl) (by decide) (fun K hK => ?_)
          refine goes_ Try.func39 (by kernel_rfl) rfl #[.pointer (some ⟨g, 0, none⟩), .int .i64 e, .int .i64 n, .int .i64 ((n : Int) + 1)] (by rfl) rfl rfl (by (try simp only [List.map_toArray, List.map_cons, List.map_nil]); first | done | rfl) ?_
          with_reducible refine (HCd.out).mono ?_
          rintro _ _ ⟨rfl, qd, rfl⟩
          refine ⟨_, rfl, ?_⟩
          have HEd := Aside0.mk (CS.below HDd.out (pw_below_drewN (Below.refl wb.drew.heap.size wb.drew) qd))
          have hcd := Side.at_ HSc.out.hi e ph hph n hnle
          have hdd := hcd.1
          have hfd := hcd.2
          clear hcd
          refine hK.out _ _ ⟨(blk_cell HEd.out.tb 4).trans rfl, CS.rowh HEd.out HL.out.1 HL.out.2 hle hph⟩ (fun hHeld => ?_)
          clear hK K
          refine norm_ (a' := ?_) ?_ ?_
          rotate_left
          · show Act.put _ (some 64) _ = _
            simp only [Act.put, List.setIfInBounds_toArray, List.set_cons_zero, List.set_cons_succ, i64_w, i32_w]
            rfl
          refine pure_ (i := 11) (N := some 65) (v := ?_) (a' := ?_) #[true, true, true, true, true, true, true, true, true, true, true, true, false] rfl rfl (by kernel_rfl) (fun _ _ _ h => h) (Or.inl ⟨by rfl, ?_⟩) ?_ ?_
          rotate_left
          · intro w'
            go_simp
            with_reducible rfl
          rotate_left
          · simp only [Act.put, List.setIfInBounds_toArray, List.set_cons_zero, List.set_cons_succ, i64_w, i32_w]
            rfl
          refine last_ (i := 12) (N := none) #[true, true, true, true, true, true, true, true, true, true, true, true, true] rfl rfl (by kernel_rfl) (by decide) (fun K hK => ?_)
          refine skip_ (w1 := ?_) (by rfl) rfl ?_ ?_
          rotate_left
          · go_simp
            rfl
          refine hK.out _ _ ?_
          clear hK K
          refine done_ (by kernel_rfl) ?_
          have HSd := Aside0.mk (CS.puth (CS.below HSc.out (pw_below_drewN (Below.refl wb.heap.size wb) (1 + qd))) e ph hph n (cst E T C e n 1))
          clear hxd hyd hdd hfd HDd HCd HEd
          go_wp2
          have HTH2 := Aside0.mk (TV.put HTH.out he1 hle hnle)
          go_roundg (nf + 1 - (n + 1))
          case measure => omega
          case rel => exact ⟨n + 1, _, _, by omega, by omega, by omega, by go_num, HSd, ⟨HTL2.out, HTH2.out⟩⟩
        · have hlez : ¬ (e : Int) ≤ (ne : Int) := by omega
          obtain rfl : e = ne + 1 := by omega
          have hne_ := HI.out.ne
          have ht0 := (blk_cell HI.out.tb 0).trans (show _ = some (.int .i64 E) from rfl)
          have hr0 := (blk_cell HI.out.rb 0).trans (show _ = some (.int .i64 0) from rfl)
          have hf0 := blk_frozen HI.out.rb 0
          have ht1 := (blk_cell HI.out.tb 1).trans (show _ = some (.int .i64 T) from rfl)
          have hr1 := (blk_cell HI.out.rb 1).trans (show _ = some (.int .i64 0) from rfl)
          have hf1 := blk_frozen HI.out.rb 1
          have ht2 := (blk_cell HI.out.tb 2).trans (show _ = some (.int .i64 C) from rfl)
          have hr2 := (blk_cell HI.out.rb 2).trans (show _ = some (.int .i64 0) from rfl)
          have hf2 := blk_frozen HI.out.rb 2
          have ht3 := (blk_cell HI.out.tb 3).trans (show _ = some (.slice (some ⟨gl, 0, none⟩) (ne + 1) cl) from rfl)
          have hr3 := (blk_cell HI.out.rb 3).trans (show _ = some (.slice none 0 0) from rfl)
          have hf3 := blk_frozen HI.out.rb 3
          have ht4 := (blk_cell HI.out.tb 4).trans (show _ = some (.slice (some ⟨gh, 0, none⟩) (ne + 1) ch) from rfl)
          have hr4 := (blk_cell HI.out.rb 4).trans (show _ = some (.slice none 0 0) from rfl)
          have hf4 := blk_frozen HI.out.rb 4
          go_wp2
          obtain ⟨o1, o2, o3, o4⟩ := CS.out HI.out HG6.out (.int .i64 E) (.int .i64 T) (.int .i64 C) (.slice (some ⟨gl, 0, none⟩) (ne + 1) cl) (.slice (some ⟨gh, 0, none⟩) (ne + 1) ch)
          refine bodyPost_ret (results_cell_row rfl _ _ g6 42 #[.int .i64 E, .int .i64 T, .int .i64 C, .slice (some ⟨gl, 0, none⟩) (ne + 1) cl, .slice (some ⟨gh, 0, none⟩) (ne + 1) ch] (0, 0) _ rfl o4 Try.underlying42 rfl (by kernel_rfl)) rfl ?_
          exact ⟨_, _, rfl, _, _, _, o1, _, o2, HL.out.1, HL.out.2, HT.out.1, HT.out.2, o3⟩


end Go.Proofs.Ytkbmefmnfoalhaa.PrintC
