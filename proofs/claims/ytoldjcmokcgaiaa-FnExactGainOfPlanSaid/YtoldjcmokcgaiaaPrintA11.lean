-- written by this session's own driver (wip/gen.py) with the kit's print and contracts of our own
import Derived.Test.YtoldjcmokcgaiaaPrintA0
namespace Go.Proofs.Ytoldjcmokcgaiaa.PrintA
open Go.RowKit Go.Proofs.YtoldjcmokcgaiaaLib Go.Proofs.YtoldjcmokcgaiaaW.PrintWords Go.Proofs.YtoldjcmokcgaiaaW.PrintLast Go.Proofs.YtoldjcmokcgaiaaW.PrintMore
attribute [local go_sem] max2_int min2_int max_two min_two max_three min_three max_four min_four   -- for this text's walks alone
set_option linter.unusedVariables false
set_option linter.unusedSimpArgs false

/-! ### impl_village_parts: function 44, a contract of our own -/
-- LIB Houses
theorem blk_set4 {w : World} {b g : Nat} {o : Obj} (h : w.heap[b]? = some o) (hne : b ≠ g) (a0 a1 a2 a3 : Value) : ((((w.setCell ⟨g, 0, none⟩ a0).setCell ⟨g, 1, none⟩ a1).setCell ⟨g, 2, none⟩ a2).setCell ⟨g, 3, none⟩ a3).heap[b]? = some o :=
  (Below.heap_setCell _ _ _ b hne).trans ((Below.heap_setCell _ _ _ b hne).trans ((Below.heap_setCell _ _ _ b hne).trans ((Below.heap_setCell _ _ _ b hne).trans h)))
theorem blk_put4 {w : World} {g : Nat} {x y z u : Value} {t : TypeId} (h : w.heap[g]? = some (.cells #[x, y, z, u] t (0, 0))) (a0 a1 a2 a3 : Value) : ((((w.setCell ⟨g, 0, none⟩ a0).setCell ⟨g, 1, none⟩ a1).setCell ⟨g, 2, none⟩ a2).setCell ⟨g, 3, none⟩ a3).heap[g]? = some (.cells #[a0, a1, a2, a3] t (0, 0)) := by
  have h1 := blk_set h 0 a0
  have h2 := blk_set h1 1 a1
  have h3 := blk_set h2 2 a2
  have h4 := blk_set h3 3 a3
  simpa using h4
theorem below_set4 {B : Nat} {a w : World} (h : Below B a w) {g : Nat} (hg : B ≤ g) (a0 a1 a2 a3 : Value) : Below B a ((((w.setCell ⟨g, 0, none⟩ a0).setCell ⟨g, 1, none⟩ a1).setCell ⟨g, 2, none⟩ a2).setCell ⟨g, 3, none⟩ a3) :=
  (((h.setCell hg _).setCell hg _).setCell hg _).setCell hg _
set_option maxHeartbeats 8000000 in
set_option maxRecDepth 100000 in
theorem parts0 (e x y z f : Int) (hx : 0 ≤ x ∧ x ≤ 8) (hy : 0 ≤ y ∧ y ≤ 8) (hz : 0 ≤ z ∧ z ≤ 8) (he : 0 ≤ e ∧ e ≤ 10) (hf : 0 ≤ f ∧ f ≤ 10) (w : World) :
    Calls Try.prog 44 #[.agg #[.int .i64 x, .int .i64 y, .int .i64 z, .int .i64 e], .int .i64 0, .int .i64 f] w fun e_ w' => e_ = .returned (.tuple #[.agg #[.int .i64 (f - 1), .int .i64 y, .int .i64 z, .int .i64 (e - 1)], .agg #[.int .i64 (x - f), .int .i64 y, .int .i64 z, .int .i64 e]]) ∧ Below w.heap.size w w' := by
  have HB := Aside0.mk (Below.refl w.heap.size w)
  go_enter Try.func44, Try.ntmps44
  go_wp2_with (first
    | ((with_reducible refine gate_dst (N := 3) rfl ?_); refine box_event ?hg (N := 3) ?hd (cs := #[.int .i64 x, .int .i64 y, .int .i64 z, .int .i64 e]) (t := 40) ?hr ?_; (case hd => rfl); (case hg => rfl); (case hr => first | (go_simp; done) | (go_simp; rfl)); intro b3 hg w2 hbox hb; have Gb3 := Aside0.mk (show w.heap.size ≤ b3 by rw [hg]; exact HB.out.size); have B3 := Aside0.mk hbox; have n0_ := Aside0.mk (below_step HB.out hb); clear HB; have HB := n0_; clear n0_ hg hbox hb)
    | ((with_reducible refine gate_dst (N := 6) rfl ?_); refine box_event ?hg (N := 6) ?hd (cs := #[.int .i64 0, .int .i64 0, .int .i64 0, .int .i64 0]) (t := 40) ?hr ?_; (case hd => rfl); (case hg => rfl); (case hr => first | (go_simp; done) | (go_simp; rfl)); intro b6 hg w2 hbox hb; have Gb6 := Aside0.mk (show w.heap.size ≤ b6 by rw [hg]; exact HB.out.size); have Nb3b6 := Aside0.mk (show b3 ≠ b6 by rw [hg]; exact Nat.ne_of_lt (blk_lt B3.out)); have n1_ := Aside0.mk (blk_below B3.out hb); clear B3; have B3 := n1_; clear n1_; have B6 := Aside0.mk hbox; have n0_ := Aside0.mk (below_step HB.out hb); clear HB; have HB := n0_; clear n0_ hg hbox hb)
    | ((with_reducible refine gate_dst (N := 7) rfl ?_); refine box_event ?hg (N := 7) ?hd (cs := #[.int .i64 0, .int .i64 0, .int .i64 0, .int .i64 0]) (t := 40) ?hr ?_; (case hd => rfl); (case hg => rfl); (case hr => first | (go_simp; done) | (go_simp; rfl)); intro b7 hg w2 hbox hb; have Gb7 := Aside0.mk (show w.heap.size ≤ b7 by rw [hg]; exact HB.out.size); have Nb3b7 := Aside0.mk (show b3 ≠ b7 by rw [hg]; exact Nat.ne_of_lt (blk_lt B3.out)); have n1_ := Aside0.mk (blk_below B3.out hb); clear B3; have B3 := n1_; clear n1_; have Nb6b7 := Aside0.mk (show b6 ≠ b7 by rw [hg]; exact Nat.ne_of_lt (blk_lt B6.out)); have n1_ := Aside0.mk (blk_below B6.out hb); clear B6; have B6 := n1_; clear n1_; have B7 := Aside0.mk hbox; have n0_ := Aside0.mk (below_step HB.out hb); clear HB; have HB := n0_; clear n0_ hg hbox hb))
  refine start_ (n := 6) (S := fun w' => w'.cell? ⟨b3, 0, none⟩ = some (.int .i64 x) ∧ w'.cell? ⟨b3, 1, none⟩ = some (.int .i64 y) ∧ w'.cell? ⟨b3, 2, none⟩ = some (.int .i64 z) ∧ w'.cell? ⟨b3, 3, none⟩ = some (.int .i64 e)) (ds := [5]) #[false, false, false, false, false, false] (by kernel_rfl) rfl rfl ⟨(blk_cell (show w2.drew.heap[b3]? = _ from B3.out) 0).trans rfl, (blk_cell (show w2.drew.heap[b3]? = _ from B3.out) 1).trans rfl, (blk_cell (show w2.drew.heap[b3]? = _ from B3.out) 2).trans rfl, (blk_cell (show w2.drew.heap[b3]? = _ from B3.out) 3).trans rfl⟩ (fun hHeld => ?_)
  refine take_ (i := 0) (N := some 10) (v := ?_) (a' := ?_) #[true, false, false, false, false, false] rfl rfl (by kernel_rfl) (fun _ _ _ h => h) (Or.inl ⟨by rfl, ?_⟩) hHeld ?_ ?_
  rotate_left
  · rintro w' ⟨s0, s1, s2, s3⟩
    go_simp
    with_reducible rfl
  rotate_left
  · simp only [Act.put, List.setIfInBounds_toArray, List.set_cons_zero, List.set_cons_succ, i64_w, i32_w]
    rfl
  refine take_ (i := 1) (N := some 11) (v := ?_) (a' := ?_) #[true, true, false, false, false, false] rfl rfl (by kernel_rfl) (fun _ _ _ h => h) (Or.inl ⟨by rfl, ?_⟩) hHeld ?_ ?_
  rotate_left
  · rintro w' ⟨s0, s1, s2, s3⟩
    go_simp
    with_reducible rfl
  rotate_left
  · simp only [Act.put, List.setIfInBounds_toArray, List.set_cons_zero, List.set_cons_succ, i64_w, i32_w]
    rfl
  refine join_ (σ := Nat × Nat) 2 #[true, true, true, true, false, false] (fun s_ => [(8, .pointer (some ⟨s_.1, 0, none⟩)), (9, .pointer (some ⟨s_.2, 0, none⟩))]) (fun s_ w' => (w'.cell? ⟨b3, 0, none⟩ = some (.int .i64 x) ∧ w'.cell? ⟨b3, 1, none⟩ = some (.int .i64 y) ∧ w'.cell? ⟨b3, 2, none⟩ = some (.int .i64 z) ∧ w'.cell? ⟨b3, 3, none⟩ = some (.int .i64 e)) ∧ w'.heap[s_.1]? = some (.cells #[.int .i64 0, .int .i64 0, .int .i64 0, .int .i64 0] 40 (0, 0)) ∧ w'.heap[s_.2]? = some (.cells #[.int .i64 0, .int .i64 0, .int .i64 0, .int .i64 0] 40 (0, 0)) ∧ s_.1 ≠ s_.2 ∧ w2.drew.heap.size ≤ s_.1 ∧ w2.drew.heap.size ≤ s_.2 ∧ Below w2.drew.heap.size w2.drew w') ?_ ?_
  rotate_left
  · intro hCont
    refine two_ (i := 2) (j := 3) (Ni := some 8) (Nj := some 9) #[true, true, true, false, false, false] #[true, true, false, true, false, false] rfl rfl rfl rfl (by kernel_rfl) (by decide) (by decide) (fun K hK => ?_) (fun K hK => ?_)
    · skip
      refine box_step (N := 8) ?hw rfl (cs := #[.int .i64 0, .int .i64 0, .int .i64 0, .int .i64 0]) (t := 40) ?hr ?_
      case hw => rfl
      case hr => first | (go_simp; done) | (go_simp; rfl)
      intro g8 hg8 u8 hb8 hl8
      refine hK.out _ _ ⟨(blk_cell (blk_below (show w2.drew.heap[b3]? = _ from B3.out) hl8) 0).trans rfl, (blk_cell (blk_below (show w2.drew.heap[b3]? = _ from B3.out) hl8) 1).trans rfl, (blk_cell (blk_below (show w2.drew.heap[b3]? = _ from B3.out) hl8) 2).trans rfl, (blk_cell (blk_below (show w2.drew.heap[b3]? = _ from B3.out) hl8) 3).trans rfl⟩ (fun hHeld => ?_)
      clear hK K
      refine norm_ (a' := ?_) ?_ ?_
      rotate_left
      · show Act.put _ (some 8) _ = _
        simp only [Act.put, List.setIfInBounds_toArray, List.set_cons_zero, List.set_cons_succ, i64_w, i32_w]
        rfl
      refine one_ (i := 3) (N := some 9) #[true, true, true, true, false, false] rfl rfl (by kernel_rfl) (by decide) (fun K hK => ?_)
      refine box_step (N := 9) ?hw rfl (cs := #[.int .i64 0, .int .i64 0, .int .i64 0, .int .i64 0]) (t := 40) ?hr ?_
      case hw => rfl
      case hr => first | (go_simp; done) | (go_simp; rfl)
      intro g9 hg9 u9 hb9 hl9
      refine hK.out _ _ ⟨(blk_cell (blk_below (blk_below (show w2.drew.heap[b3]? = _ from B3.out) hl8) hl9) 0).trans rfl, (blk_cell (blk_below (blk_below (show w2.drew.heap[b3]? = _ from B3.out) hl8) hl9) 1).trans rfl, (blk_cell (blk_below (blk_below (show w2.drew.heap[b3]? = _ from B3.out) hl8) hl9) 2).trans rfl, (blk_cell (blk_below (blk_below (show w2.drew.heap[b3]? = _ from B3.out) hl8) hl9) 3).trans rfl⟩ (fun hHeld => ?_)
      clear hK K
      refine norm_ (a' := ?_) ?_ ?_
      rotate_left
      · show Act.put _ (some 9) _ = _
        simp only [Act.put, List.setIfInBounds_toArray, List.set_cons_zero, List.set_cons_succ, i64_w, i32_w]
        rfl
      exact norm_ (by simp only [putAll, Act.put, List.setIfInBounds_toArray, List.set_cons_zero, List.set_cons_succ]) (hCont (g8, g9) _ ⟨hHeld, blk_below hb8 hl9, hb9, (by rw [hg9]; exact Nat.ne_of_lt (blk_lt hb8)), (by rw [hg8]; exact Nat.le_refl _), (by rw [hg9]; exact hl8.size), below_step hl8 hl9⟩)
    · skip
      refine box_step (N := 9) ?hw rfl (cs := #[.int .i64 0, .int .i64 0, .int .i64 0, .int .i64 0]) (t := 40) ?hr ?_
      case hw => rfl
      case hr => first | (go_simp; done) | (go_simp; rfl)
      intro g9 hg9 u9 hb9 hl9
      refine hK.out _ _ ⟨(blk_cell (blk_below (show w2.drew.heap[b3]? = _ from B3.out) hl9) 0).trans rfl, (blk_cell (blk_below (show w2.drew.heap[b3]? = _ from B3.out) hl9) 1).trans rfl, (blk_cell (blk_below (show w2.drew.heap[b3]? = _ from B3.out) hl9) 2).trans rfl, (blk_cell (blk_below (show w2.drew.heap[b3]? = _ from B3.out) hl9) 3).trans rfl⟩ (fun hHeld => ?_)
      clear hK K
      refine norm_ (a' := ?_) ?_ ?_
      rotate_left
      · show Act.put _ (some 9) _ = _
        simp only [Act.put, List.setIfInBounds_toArray, List.set_cons_zero, List.set_cons_succ, i64_w, i32_w]
        rfl
      refine one_ (i := 2) (N := some 8) #[true, true, true, true, false, false] rfl rfl (by kernel_rfl) (by decide) (fun K hK => ?_)
      refine box_step (N := 8) ?hw rfl (cs := #[.int .i64 0, .int .i64 0, .int .i64 0, .int .i64 0]) (t := 40) ?hr ?_
      case hw => rfl
      case hr => first | (go_simp; done) | (go_simp; rfl)
      intro g8 hg8 u8 hb8 hl8
      refine hK.out _ _ ⟨(blk_cell (blk_below (blk_below (show w2.drew.heap[b3]? = _ from B3.out) hl9) hl8) 0).trans rfl, (blk_cell (blk_below (blk_below (show w2.drew.heap[b3]? = _ from B3.out) hl9) hl8) 1).trans rfl, (blk_cell (blk_below (blk_below (show w2.drew.heap[b3]? = _ from B3.out) hl9) hl8) 2).trans rfl, (blk_cell (blk_below (blk_below (show w2.drew.heap[b3]? = _ from B3.out) hl9) hl8) 3).trans rfl⟩ (fun hHeld => ?_)
      clear hK K
      refine norm_ (a' := ?_) ?_ ?_
      rotate_left
      · show Act.put _ (some 8) _ = _
        simp only [Act.put, List.setIfInBounds_toArray, List.set_cons_zero, List.set_cons_succ, i64_w, i32_w]
        rfl
      exact norm_ (by simp only [putAll, Act.put, List.setIfInBounds_toArray, List.set_cons_zero, List.set_cons_succ]) (hCont (g8, g9) _ ⟨hHeld, hb8, blk_below hb9 hl8, (by intro he_; exact absurd he_.symm (by rw [hg8]; exact Nat.ne_of_lt (blk_lt hb9))), (by rw [hg8]; exact hl9.size), (by rw [hg9]; exact Nat.le_refl _), below_step hl9 hl8⟩)
  rintro ⟨g8, g9⟩ u ⟨hHeld, q8, q9, q89, ge8, ge9, qB⟩
  have Q8 := Aside0.mk q8
  have Q9 := Aside0.mk q9
  have N89 := Aside0.mk q89
  have n0_ := Aside0.mk (below_step HB.out.drew qB)
  have N38 := Aside0.mk (show b3 ≠ g8 from Nat.ne_of_lt (Nat.lt_of_lt_of_le (blk_lt B3.out) ge8))
  have N39 := Aside0.mk (show b3 ≠ g9 from Nat.ne_of_lt (Nat.lt_of_lt_of_le (blk_lt B3.out) ge9))
  have N68 := Aside0.mk (show b6 ≠ g8 from Nat.ne_of_lt (Nat.lt_of_lt_of_le (blk_lt B6.out) ge8))
  have N69 := Aside0.mk (show b6 ≠ g9 from Nat.ne_of_lt (Nat.lt_of_lt_of_le (blk_lt B6.out) ge9))
  have N78 := Aside0.mk (show b7 ≠ g8 from Nat.ne_of_lt (Nat.lt_of_lt_of_le (blk_lt B7.out) ge8))
  have N79 := Aside0.mk (show b7 ≠ g9 from Nat.ne_of_lt (Nat.lt_of_lt_of_le (blk_lt B7.out) ge9))
  have G8 := Aside0.mk (Nat.le_trans HB.out.size ge8)
  have G9 := Aside0.mk (Nat.le_trans HB.out.size ge9)
  have n3_ := Aside0.mk (blk_below (show w2.drew.heap[b3]? = _ from B3.out) qB)
  have n6_ := Aside0.mk (blk_below (show w2.drew.heap[b6]? = _ from B6.out) qB)
  have n7_ := Aside0.mk (blk_below (show w2.drew.heap[b7]? = _ from B7.out) qB)
  clear HB B3 B6 B7 q8 q9 q89 ge8 ge9 qB
  have HB := n0_
  have B3 := n3_
  have B6 := n6_
  have B7 := n7_
  clear n0_ n3_ n6_ n7_
  have hz0 := (blk_cell Q8.out 0).trans (show _ = some (.int .i64 0) from rfl)
  have hz1 := (blk_cell Q8.out 1).trans (show _ = some (.int .i64 0) from rfl)
  have hz2 := (blk_cell Q8.out 2).trans (show _ = some (.int .i64 0) from rfl)
  have hz3 := (blk_cell Q8.out 3).trans (show _ = some (.int .i64 0) from rfl)
  have hf0 := blk_frozen Q8.out 0
  have hf1 := blk_frozen Q8.out 1
  have hf2 := blk_frozen Q8.out 2
  have hf3 := blk_frozen Q8.out 3
  refine norm_ (a' := ?_) ?_ ?_
  rotate_left
  · simp only [putAll, Act.put, List.setIfInBounds_toArray, List.set_cons_zero, List.set_cons_succ]
    rfl
  refine one_ (i := 4) (N := none) #[true, true, true, true, true, false] rfl rfl (by kernel_rfl) (by decide) (fun K hK => ?_)
  refine skip_ (w1 := ?_) (by rfl) rfl ?_ ?_
  rotate_left
  · go_simp
    rfl
  clear hz0 hz1 hz2 hz3 hf0 hf1 hf2 hf3
  have Q9b := Aside0.mk (blk_set4 Q9.out (Ne.symm N89.out) (.int .i64 x) (.int .i64 y) (.int .i64 z) (.int .i64 e))
  have B3b := Aside0.mk (blk_set4 B3.out N38.out (.int .i64 x) (.int .i64 y) (.int .i64 z) (.int .i64 e))
  have hy0 := (blk_cell Q9b.out 0).trans (show _ = some (.int .i64 0) from rfl)
  have hy1 := (blk_cell Q9b.out 1).trans (show _ = some (.int .i64 0) from rfl)
  have hy2 := (blk_cell Q9b.out 2).trans (show _ = some (.int .i64 0) from rfl)
  have hy3 := (blk_cell Q9b.out 3).trans (show _ = some (.int .i64 0) from rfl)
  have hq0 := blk_frozen Q9b.out 0
  have hq1 := blk_frozen Q9b.out 1
  have hq2 := blk_frozen Q9b.out 2
  have hq3 := blk_frozen Q9b.out 3
  refine hK.out _ _ ⟨(blk_cell B3b.out 0).trans rfl, (blk_cell B3b.out 1).trans rfl, (blk_cell B3b.out 2).trans rfl, (blk_cell B3b.out 3).trans rfl⟩ (fun hHeld => ?_)
  clear hK K
  refine last_ (i := 5) (N := none) #[true, true, true, true, true, true] rfl rfl (by kernel_rfl) (by decide) (fun K hK => ?_)
  refine skip_ (w1 := ?_) (by rfl) rfl ?_ ?_
  rotate_left
  · go_simp
    rfl
  refine hK.out _ _ ?_
  clear hK K
  refine done_ (by kernel_rfl) ?_
  clear hy0 hy1 hy2 hy3 hq0 hq1 hq2 hq3
  have n8_ := Aside0.mk (blk_set4 (blk_put4 Q8.out (.int .i64 x) (.int .i64 y) (.int .i64 z) (.int .i64 e)) N89.out (.int .i64 x) (.int .i64 y) (.int .i64 z) (.int .i64 e))
  have n9_ := Aside0.mk (blk_put4 Q9b.out (.int .i64 x) (.int .i64 y) (.int .i64 z) (.int .i64 e))
  have n3_ := Aside0.mk (blk_set4 B3b.out N39.out (.int .i64 x) (.int .i64 y) (.int .i64 z) (.int .i64 e))
  have n6_ := Aside0.mk (blk_set4 (blk_set4 B6.out N68.out (.int .i64 x) (.int .i64 y) (.int .i64 z) (.int .i64 e)) N69.out (.int .i64 x) (.int .i64 y) (.int .i64 z) (.int .i64 e))
  have n7_ := Aside0.mk (blk_set4 (blk_set4 B7.out N78.out (.int .i64 x) (.int .i64 y) (.int .i64 z) (.int .i64 e)) N79.out (.int .i64 x) (.int .i64 y) (.int .i64 z) (.int .i64 e))
  have n0_ := Aside0.mk (below_set4 (below_set4 HB.out G8.out (.int .i64 x) (.int .i64 y) (.int .i64 z) (.int .i64 e)) G9.out (.int .i64 x) (.int .i64 y) (.int .i64 z) (.int .i64 e))
  clear Q8 Q9 Q9b B3 B3b B6 B7 HB
  have Q8 := n8_
  have Q9 := n9_
  have B3 := n3_
  have B6 := n6_
  have B7 := n7_
  have HB := n0_
  clear n8_ n9_ n3_ n6_ n7_ n0_
  generalize ((((((((u.setCell ⟨g8, 0, none⟩ (.int .i64 x)).setCell ⟨g8, 1, none⟩ (.int .i64 y)).setCell ⟨g8, 2, none⟩ (.int .i64 z)).setCell ⟨g8, 3, none⟩ (.int .i64 e)).setCell ⟨g9, 0, none⟩ (.int .i64 x)).setCell ⟨g9, 1, none⟩ (.int .i64 y)).setCell ⟨g9, 2, none⟩ (.int .i64 z)).setCell ⟨g9, 3, none⟩ (.int .i64 e)) = u2 at Q8 Q9 B3 B6 B7 HB ⊢
  go_wp2
  have hz0 := (blk_cell Q8.out 0).trans (show _ = some (.int .i64 x) from rfl)
  have hz1 := (blk_cell Q8.out 1).trans (show _ = some (.int .i64 y) from rfl)
  have hz2 := (blk_cell Q8.out 2).trans (show _ = some (.int .i64 z) from rfl)
  have hz3 := (blk_cell Q8.out 3).trans (show _ = some (.int .i64 e) from rfl)
  have hf0 := blk_frozen Q8.out 0
  have hf1 := blk_frozen Q8.out 1
  have hf2 := blk_frozen Q8.out 2
  have hf3 := blk_frozen Q8.out 3
  have he3 : u2.cell? ⟨b3, 3, none⟩ = some (.int .i64 e) := (blk_cell B3.out 3).trans rfl
  have hw1 : IntKind.i64.wrap (f - 1) = f - 1 := by rw [i64_w]; unfold wrap64; omega
  have hw2 : IntKind.i64.wrap (e - 1) = e - 1 := by clear hw1; rw [i64_w]; unfold wrap64; omega
  refine start_ (n := 11) (S := fun w' => w'.cell? ⟨b3, 3, none⟩ = some (.int .i64 e)) (ds := [10]) #[false, false, false, false, false, false, false, false, false, false, false] (by kernel_rfl) rfl rfl (he3) (fun hHeld => ?_)
  refine pure_ (i := 0) (N := some 12) (v := ?_) (a' := ?_) #[true, false, false, false, false, false, false, false, false, false, false] rfl rfl (by kernel_rfl) (fun _ _ _ h => h) (Or.inl ⟨by rfl, ?_⟩) ?_ ?_
  rotate_left
  · intro w'
    go_simp
    with_reducible rfl
  rotate_left
  · simp only [Act.put, List.setIfInBounds_toArray, List.set_cons_zero, List.set_cons_succ, i64_w, i32_w]
    rfl
  refine pure_ (i := 1) (N := some 13) (v := ?_) (a' := ?_) #[true, true, false, false, false, false, false, false, false, false, false] rfl rfl (by kernel_rfl) (fun _ _ _ h => h) (Or.inl ⟨by rfl, ?_⟩) ?_ ?_
  rotate_left
  · intro w'
    go_simp
    with_reducible rfl
  rotate_left
  · simp only [Act.put, List.setIfInBounds_toArray, List.set_cons_zero, List.set_cons_succ, i64_w, i32_w]
    rfl
  refine pure_ (i := 2) (N := some 14) (v := ?_) (a' := ?_) #[true, true, true, false, false, false, false, false, false, false, false] rfl rfl (by kernel_rfl) (fun _ _ _ h => h) (Or.inl ⟨by rfl, ?_⟩) ?_ ?_
  rotate_left
  · intro w'
    go_simp
    with_reducible rfl
  rotate_left
  · simp only [Act.put, List.setIfInBounds_toArray, List.set_cons_zero, List.set_cons_succ, i64_w, i32_w]
    rfl
  refine pure_ (i := 3) (N := some 15) (v := ?_) (a' := ?_) #[true, true, true, true, false, false, false, false, false, false, false] rfl rfl (by kernel_rfl) (fun _ _ _ h => h) (Or.inl ⟨by rfl, ?_⟩) ?_ ?_
  rotate_left
  · intro w'
    go_simp
    with_reducible rfl
  rotate_left
  · simp only [Act.put, List.setIfInBounds_toArray, List.set_cons_zero, List.set_cons_succ, i64_w, i32_w]
    rfl
  refine pure_ (i := 6) (N := some 18) (v := ?_) (a' := ?_) #[true, true, true, true, false, false, true, false, false, false, false] rfl rfl (by kernel_rfl) (fun _ _ _ h => h) (Or.inl ⟨by rfl, ?_⟩) ?_ ?_
  rotate_left
  · intro w'
    go_simp
    with_reducible rfl
  rotate_left
  · simp only [Act.put, List.setIfInBounds_toArray, List.set_cons_zero, List.set_cons_succ, i64_w, i32_w]
    rfl
  refine pure_ (i := 7) (N := some 19) (v := ?_) (a' := ?_) #[true, true, true, true, false, false, true, true, false, false, false] rfl rfl (by kernel_rfl) (fun _ _ _ h => h) (Or.inl ⟨by rfl, ?_⟩) ?_ ?_
  rotate_left
  · intro w'
    go_simp
    with_reducible rfl
  rotate_left
  · simp only [Act.put, List.setIfInBounds_toArray, List.set_cons_zero, List.set_cons_succ, i64_w, i32_w]
    rfl
  refine take_ (i := 4) (N := some 16) (v := ?_) (a' := ?_) #[true, true, true, true, true, false, true, true, false, false, false] rfl rfl (by kernel_rfl) (fun _ _ _ h => h) (Or.inl ⟨by rfl, ?_⟩) hHeld ?_ ?_
  rotate_left
  · intro w' s0
    go_simp
    with_reducible rfl
  rotate_left
  · simp only [Act.put, List.setIfInBounds_toArray, List.set_cons_zero, List.set_cons_succ, i64_w, i32_w]
    rfl
  refine pure_ (i := 5) (N := some 17) (v := ?_) (a' := ?_) #[true, true, true, true, true, true, true, true, false, false, false] rfl rfl (by kernel_rfl) (fun _ _ _ h => h) (Or.inl ⟨by rfl, ?_⟩) ?_ ?_
  rotate_left
  · intro w'
    go_simp
    with_reducible rfl
  rotate_left
  · simp only [Act.put, List.setIfInBounds_toArray, List.set_cons_zero, List.set_cons_succ, i64_w, i32_w]
    rfl
  refine one_ (i := 8) (N := none) #[true, true, true, true, true, true, true, true, true, false, false] rfl rfl (by kernel_rfl) (by decide) (fun K hK => ?_)
  refine skip_ (w1 := ?_) (by rfl) rfl ?_ ?_
  rotate_left
  · go_simp
    rfl
  have Q8b := Aside0.mk (blk_put (cs' := #[.int .i64 (f - 1), .int .i64 y, .int .i64 z, .int .i64 e]) Q8.out 0 (.int .i64 (f - 1)) rfl)
  have B3b := Aside0.mk (blk_far B3.out (p := ⟨g8, 0, none⟩) N38.out (.int .i64 (f - 1)))
  refine hK.out _ _ ((blk_cell B3b.out 3).trans rfl) (fun hHeld => ?_)
  clear hK K
  refine pure_ (i := 9) (N := some 20) (v := ?_) (a' := ?_) #[true, true, true, true, true, true, true, true, true, true, false] rfl rfl (by kernel_rfl) (fun _ _ _ h => h) (Or.inl ⟨by rfl, ?_⟩) ?_ ?_
  rotate_left
  · intro w'
    go_simp
    with_reducible rfl
  rotate_left
  · simp only [Act.put, List.setIfInBounds_toArray, List.set_cons_zero, List.set_cons_succ, i64_w, i32_w]
    rfl
  refine last_ (i := 10) (N := none) #[true, true, true, true, true, true, true, true, true, true, true] rfl rfl (by kernel_rfl) (by decide) (fun K hK => ?_)
  refine skip_ (w1 := ?_) (by rfl) rfl ?_ ?_
  rotate_left
  · go_simp
    rfl
  refine hK.out _ _ ?_
  clear hK K
  refine done_ (by kernel_rfl) ?_
  clear hz0 hz1 hz2 hz3 hf0 hf1 hf2 hf3
  clear he3
  have n8_ := Aside0.mk (show ((u2.setCell ⟨g8, 0, none⟩ (.int .i64 (f - 1))).setCell ⟨g8, 3, none⟩ (.int .i64 (e - 1))).drew.heap[g8]? = _ from blk_put (cs' := #[.int .i64 (f - 1), .int .i64 y, .int .i64 z, .int .i64 (e - 1)]) Q8b.out 3 (.int .i64 (e - 1)) rfl)
  have N98 := Aside0.mk (Ne.symm N89.out)
  have n9_ := Aside0.mk (show ((u2.setCell ⟨g8, 0, none⟩ (.int .i64 (f - 1))).setCell ⟨g8, 3, none⟩ (.int .i64 (e - 1))).drew.heap[g9]? = _ from blk_far (blk_far Q9.out (p := ⟨g8, 0, none⟩) N98.out (.int .i64 (f - 1))) (p := ⟨g8, 3, none⟩) N98.out (.int .i64 (e - 1)))
  have n6_ := Aside0.mk (show ((u2.setCell ⟨g8, 0, none⟩ (.int .i64 (f - 1))).setCell ⟨g8, 3, none⟩ (.int .i64 (e - 1))).drew.heap[b6]? = _ from blk_far (blk_far B6.out (p := ⟨g8, 0, none⟩) N68.out (.int .i64 (f - 1))) (p := ⟨g8, 3, none⟩) N68.out (.int .i64 (e - 1)))
  have n7_ := Aside0.mk (show ((u2.setCell ⟨g8, 0, none⟩ (.int .i64 (f - 1))).setCell ⟨g8, 3, none⟩ (.int .i64 (e - 1))).drew.heap[b7]? = _ from blk_far (blk_far B7.out (p := ⟨g8, 0, none⟩) N78.out (.int .i64 (f - 1))) (p := ⟨g8, 3, none⟩) N78.out (.int .i64 (e - 1)))
  have n0_ := Aside0.mk (show Below w.heap.size w ((u2.setCell ⟨g8, 0, none⟩ (.int .i64 (f - 1))).setCell ⟨g8, 3, none⟩ (.int .i64 (e - 1))).drew from ((HB.out.setCell (p := ⟨g8, 0, none⟩) G8.out (.int .i64 (f - 1))).setCell (p := ⟨g8, 3, none⟩) G8.out (.int .i64 (e - 1))).drew)
  clear Q8 Q8b Q9 B3 B3b B6 B7 HB hw1 hw2
  have Q8 := n8_
  have Q9 := n9_
  have B6 := n6_
  have B7 := n7_
  have HB := n0_
  clear n8_ n9_ n6_ n7_ n0_
  generalize ((u2.setCell ⟨g8, 0, none⟩ (.int .i64 (f - 1))).setCell ⟨g8, 3, none⟩ (.int .i64 (e - 1))).drew = u3 at Q8 Q9 B6 B7 HB ⊢
  have hz0 := (blk_cell Q9.out 0).trans (show _ = some (.int .i64 x) from rfl)
  have hz1 := (blk_cell Q9.out 1).trans (show _ = some (.int .i64 y) from rfl)
  have hz2 := (blk_cell Q9.out 2).trans (show _ = some (.int .i64 z) from rfl)
  have hz3 := (blk_cell Q9.out 3).trans (show _ = some (.int .i64 e) from rfl)
  have hf0 := blk_frozen Q9.out 0
  have hf1 := blk_frozen Q9.out 1
  have hf2 := blk_frozen Q9.out 2
  have hf3 := blk_frozen Q9.out 3
  have hw3 : IntKind.i64.wrap (x - f) = x - f := by rw [i64_w]; unfold wrap64; omega
  go_wp2
  clear hz0 hz1 hz2 hz3 hf0 hf1 hf2 hf3
  have n9_ := Aside0.mk (blk_put (cs' := #[.int .i64 (x - f), .int .i64 y, .int .i64 z, .int .i64 e]) Q9.out 0 (.int .i64 (x - f)) rfl)
  have n8_ := Aside0.mk (blk_far Q8.out (p := ⟨g9, 0, none⟩) N89.out (.int .i64 (x - f)))
  have n6_ := Aside0.mk (blk_far B6.out (p := ⟨g9, 0, none⟩) N69.out (.int .i64 (x - f)))
  have n7_ := Aside0.mk (blk_far B7.out (p := ⟨g9, 0, none⟩) N79.out (.int .i64 (x - f)))
  have n0_ := Aside0.mk (HB.out.setCell (p := ⟨g9, 0, none⟩) G9.out (.int .i64 (x - f)))
  clear Q8 Q9 B6 B7 HB hw3
  have Q8 := n8_
  have Q9 := n9_
  have B6 := n6_
  have B7 := n7_
  have HB := n0_
  clear n8_ n9_ n6_ n7_ n0_
  generalize (u3.setCell ⟨g9, 0, none⟩ (.int .i64 (x - f))) = u4 at Q8 Q9 B6 B7 HB ⊢
  have hz0 := (blk_cell B6.out 0).trans (show _ = some (.int .i64 0) from rfl)
  have hz1 := (blk_cell B6.out 1).trans (show _ = some (.int .i64 0) from rfl)
  have hz2 := (blk_cell B6.out 2).trans (show _ = some (.int .i64 0) from rfl)
  have hz3 := (blk_cell B6.out 3).trans (show _ = some (.int .i64 0) from rfl)
  have hf0 := blk_frozen B6.out 0
  have hf1 := blk_frozen B6.out 1
  have hf2 := blk_frozen B6.out 2
  have hf3 := blk_frozen B6.out 3
  refine start_ (n := 4) (S := fun w' => w'.cell? ⟨g8, 0, none⟩ = some (.int .i64 (f - 1)) ∧ w'.cell? ⟨g8, 1, none⟩ = some (.int .i64 y) ∧ w'.cell? ⟨g8, 2, none⟩ = some (.int .i64 z) ∧ w'.cell? ⟨g8, 3, none⟩ = some (.int .i64 (e - 1)) ∧ w'.cell? ⟨g9, 0, none⟩ = some (.int .i64 (x - f)) ∧ w'.cell? ⟨g9, 1, none⟩ = some (.int .i64 y) ∧ w'.cell? ⟨g9, 2, none⟩ = some (.int .i64 z) ∧ w'.cell? ⟨g9, 3, none⟩ = some (.int .i64 e)) (ds := [3]) #[false, false, false, false] (by kernel_rfl) rfl rfl ⟨(blk_cell (show u4.drew.heap[g8]? = _ from Q8.out) 0).trans rfl, (blk_cell (show u4.drew.heap[g8]? = _ from Q8.out) 1).trans rfl, (blk_cell (show u4.drew.heap[g8]? = _ from Q8.out) 2).trans rfl, (blk_cell (show u4.drew.heap[g8]? = _ from Q8.out) 3).trans rfl, (blk_cell (show u4.drew.heap[g9]? = _ from Q9.out) 0).trans rfl, (blk_cell (show u4.drew.heap[g9]? = _ from Q9.out) 1).trans rfl, (blk_cell (show u4.drew.heap[g9]? = _ from Q9.out) 2).trans rfl, (blk_cell (show u4.drew.heap[g9]? = _ from Q9.out) 3).trans rfl⟩ (fun hHeld => ?_)
  refine take_ (i := 0) (N := some 29) (v := ?_) (a' := ?_) #[true, false, false, false] rfl rfl (by kernel_rfl) (fun _ _ _ h => h) (Or.inl ⟨by rfl, ?_⟩) hHeld ?_ ?_
  rotate_left
  · rintro w' ⟨s0, s1, s2, s3, s4, s5, s6, s7⟩
    go_simp
    with_reducible rfl
  rotate_left
  · simp only [Act.put, List.setIfInBounds_toArray, List.set_cons_zero, List.set_cons_succ, i64_w, i32_w]
    rfl
  refine take_ (i := 1) (N := some 30) (v := ?_) (a' := ?_) #[true, true, false, false] rfl rfl (by kernel_rfl) (fun _ _ _ h => h) (Or.inl ⟨by rfl, ?_⟩) hHeld ?_ ?_
  rotate_left
  · rintro w' ⟨s0, s1, s2, s3, s4, s5, s6, s7⟩
    go_simp
    with_reducible rfl
  rotate_left
  · simp only [Act.put, List.setIfInBounds_toArray, List.set_cons_zero, List.set_cons_succ, i64_w, i32_w]
    rfl
  refine one_ (i := 2) (N := none) #[true, true, true, false] rfl rfl (by kernel_rfl) (by decide) (fun K hK => ?_)
  refine skip_ (w1 := ?_) (by rfl) rfl ?_ ?_
  rotate_left
  · go_simp
    rfl
  clear hz0 hz1 hz2 hz3 hf0 hf1 hf2 hf3
  have Q8b := Aside0.mk (show ((((u4.setCell ⟨b6, 0, none⟩ (.int .i64 (f - 1))).setCell ⟨b6, 1, none⟩ (.int .i64 y)).setCell ⟨b6, 2, none⟩ (.int .i64 z)).setCell ⟨b6, 3, none⟩ (.int .i64 (e - 1))).drew.heap[g8]? = _ from blk_set4 Q8.out (Ne.symm N68.out) (.int .i64 (f - 1)) (.int .i64 y) (.int .i64 z) (.int .i64 (e - 1)))
  have Q9b := Aside0.mk (show ((((u4.setCell ⟨b6, 0, none⟩ (.int .i64 (f - 1))).setCell ⟨b6, 1, none⟩ (.int .i64 y)).setCell ⟨b6, 2, none⟩ (.int .i64 z)).setCell ⟨b6, 3, none⟩ (.int .i64 (e - 1))).drew.heap[g9]? = _ from blk_set4 Q9.out (Ne.symm N69.out) (.int .i64 (f - 1)) (.int .i64 y) (.int .i64 z) (.int .i64 (e - 1)))
  have B7b := Aside0.mk (blk_set4 B7.out (Ne.symm Nb6b7.out) (.int .i64 (f - 1)) (.int .i64 y) (.int .i64 z) (.int .i64 (e - 1)))
  have hy0 := (blk_cell B7b.out 0).trans (show _ = some (.int .i64 0) from rfl)
  have hy1 := (blk_cell B7b.out 1).trans (show _ = some (.int .i64 0) from rfl)
  have hy2 := (blk_cell B7b.out 2).trans (show _ = some (.int .i64 0) from rfl)
  have hy3 := (blk_cell B7b.out 3).trans (show _ = some (.int .i64 0) from rfl)
  have hq0 := blk_frozen B7b.out 0
  have hq1 := blk_frozen B7b.out 1
  have hq2 := blk_frozen B7b.out 2
  have hq3 := blk_frozen B7b.out 3
  refine hK.out _ _ ⟨(blk_cell Q8b.out 0).trans rfl, (blk_cell Q8b.out 1).trans rfl, (blk_cell Q8b.out 2).trans rfl, (blk_cell Q8b.out 3).trans rfl, (blk_cell Q9b.out 0).trans rfl, (blk_cell Q9b.out 1).trans rfl, (blk_cell Q9b.out 2).trans rfl, (blk_cell Q9b.out 3).trans rfl⟩ (fun hHeld => ?_)
  clear hK K
  refine last_ (i := 3) (N := none) #[true, true, true, true] rfl rfl (by kernel_rfl) (by decide) (fun K hK => ?_)
  refine skip_ (w1 := ?_) (by rfl) rfl ?_ ?_
  rotate_left
  · go_simp
    rfl
  refine hK.out _ _ ?_
  clear hK K
  refine done_ (by kernel_rfl) ?_
  clear hy0 hy1 hy2 hy3 hq0 hq1 hq2 hq3
  have m6_ := blk_set4 (blk_put4 B6.out (.int .i64 (f - 1)) (.int .i64 y) (.int .i64 z) (.int .i64 (e - 1))) Nb6b7.out (.int .i64 (x - f)) (.int .i64 y) (.int .i64 z) (.int .i64 e)
  have m7_ := blk_put4 B7b.out (.int .i64 (x - f)) (.int .i64 y) (.int .i64 z) (.int .i64 e)
  have m0_ := below_set4 (below_set4 HB.out Gb6.out (.int .i64 (f - 1)) (.int .i64 y) (.int .i64 z) (.int .i64 (e - 1))) Gb7.out (.int .i64 (x - f)) (.int .i64 y) (.int .i64 z) (.int .i64 e)
  have n6_ := Aside0.mk (blk_drew m6_)
  have n7_ := Aside0.mk (blk_drew m7_)
  have n0_ := Aside0.mk m0_.drew
  clear m6_ m7_ m0_
  go_wp2
  refine bodyPost_ret (results_cc rfl _ _ b6 b7 40 40 #[.int .i64 (f - 1), .int .i64 y, .int .i64 z, .int .i64 (e - 1)] #[.int .i64 (x - f), .int .i64 y, .int .i64 z, .int .i64 e] (0, 0) (0, 0) _ _ rfl n6_.out Try.underlying40 rfl (by kernel_rfl) rfl n7_.out Try.underlying40 rfl (by kernel_rfl)) rfl ?_
  exact ⟨rfl, n0_.out⟩
set_option maxHeartbeats 8000000 in
set_option maxRecDepth 100000 in
theorem parts1 (e x y z f : Int) (hx : 0 ≤ x ∧ x ≤ 8) (hy : 0 ≤ y ∧ y ≤ 8) (hz : 0 ≤ z ∧ z ≤ 8) (he : 0 ≤ e ∧ e ≤ 10) (hf : 0 ≤ f ∧ f ≤ 10) (w : World) :
    Calls Try.prog 44 #[.agg #[.int .i64 x, .int .i64 y, .int .i64 z, .int .i64 e], .int .i64 1, .int .i64 f] w fun e_ w' => e_ = .returned (.tuple #[.agg #[.int .i64 x, .int .i64 (f - 1), .int .i64 z, .int .i64 (e - 1)], .agg #[.int .i64 x, .int .i64 (y - f), .int .i64 z, .int .i64 e]]) ∧ Below w.heap.size w w' := by
  have HB := Aside0.mk (Below.refl w.heap.size w)
  go_enter Try.func44, Try.ntmps44
  go_wp2_with (first
    | ((with_reducible refine gate_dst (N := 3) rfl ?_); refine box_event ?hg (N := 3) ?hd (cs := #[.int .i64 x, .int .i64 y, .int .i64 z, .int .i64 e]) (t := 40) ?hr ?_; (case hd => rfl); (case hg => rfl); (case hr => first | (go_simp; done) | (go_simp; rfl)); intro b3 hg w2 hbox hb; have Gb3 := Aside0.mk (show w.heap.size ≤ b3 by rw [hg]; exact HB.out.size); have B3 := Aside0.mk hbox; have n0_ := Aside0.mk (below_step HB.out hb); clear HB; have HB := n0_; clear n0_ hg hbox hb)
    | ((with_reducible refine gate_dst (N := 6) rfl ?_); refine box_event ?hg (N := 6) ?hd (cs := #[.int .i64 0, .int .i64 0, .int .i64 0, .int .i64 0]) (t := 40) ?hr ?_; (case hd => rfl); (case hg => rfl); (case hr => first | (go_simp; done) | (go_simp; rfl)); intro b6 hg w2 hbox hb; have Gb6 := Aside0.mk (show w.heap.size ≤ b6 by rw [hg]; exact HB.out.size); have Nb3b6 := Aside0.mk (show b3 ≠ b6 by rw [hg]; exact Nat.ne_of_lt (blk_lt B3.out)); have n1_ := Aside0.mk (blk_below B3.out hb); clear B3; have B3 := n1_; clear n1_; have B6 := Aside0.mk hbox; have n0_ := Aside0.mk (below_step HB.out hb); clear HB; have HB := n0_; clear n0_ hg hbox hb)
    | ((with_reducible refine gate_dst (N := 7) rfl ?_); refine box_event ?hg (N := 7) ?hd (cs := #[.int .i64 0, .int .i64 0, .int .i64 0, .int .i64 0]) (t := 40) ?hr ?_; (case hd => rfl); (case hg => rfl); (case hr => first | (go_simp; done) | (go_simp; rfl)); intro b7 hg w2 hbox hb; have Gb7 := Aside0.mk (show w.heap.size ≤ b7 by rw [hg]; exact HB.out.size); have Nb3b7 := Aside0.mk (show b3 ≠ b7 by rw [hg]; exact Nat.ne_of_lt (blk_lt B3.out)); have n1_ := Aside0.mk (blk_below B3.out hb); clear B3; have B3 := n1_; clear n1_; have Nb6b7 := Aside0.mk (show b6 ≠ b7 by rw [hg]; exact Nat.ne_of_lt (blk_lt B6.out)); have n1_ := Aside0.mk (blk_below B6.out hb); clear B6; have B6 := n1_; clear n1_; have B7 := Aside0.mk hbox; have n0_ := Aside0.mk (below_step HB.out hb); clear HB; have HB := n0_; clear n0_ hg hbox hb))
  refine start_ (n := 6) (S := fun w' => w'.cell? ⟨b3, 0, none⟩ = some (.int .i64 x) ∧ w'.cell? ⟨b3, 1, none⟩ = some (.int .i64 y) ∧ w'.cell? ⟨b3, 2, none⟩ = some (.int .i64 z) ∧ w'.cell? ⟨b3, 3, none⟩ = some (.int .i64 e)) (ds := [5]) #[false, false, false, false, false, false] (by kernel_rfl) rfl rfl ⟨(blk_cell (show w2.drew.heap[b3]? = _ from B3.out) 0).trans rfl, (blk_cell (show w2.drew.heap[b3]? = _ from B3.out) 1).trans rfl, (blk_cell (show w2.drew.heap[b3]? = _ from B3.out) 2).trans rfl, (blk_cell (show w2.drew.heap[b3]? = _ from B3.out) 3).trans rfl⟩ (fun hHeld => ?_)
  refine take_ (i := 0) (N := some 10) (v := ?_) (a' := ?_) #[true, false, false, false, false, false] rfl rfl (by kernel_rfl) (fun _ _ _ h => h) (Or.inl ⟨by rfl, ?_⟩) hHeld ?_ ?_
  rotate_left
  · rintro w' ⟨s0, s1, s2, s3⟩
    go_simp
    with_reducible rfl
  rotate_left
  · simp only [Act.put, List.setIfInBounds_toArray, List.set_cons_zero, List.set_cons_succ, i64_w, i32_w]
    rfl
  refine take_ (i := 1) (N := some 11) (v := ?_) (a' := ?_) #[true, true, false, false, false, false] rfl rfl (by kernel_rfl) (fun _ _ _ h => h) (Or.inl ⟨by rfl, ?_⟩) hHeld ?_ ?_
  rotate_left
  · rintro w' ⟨s0, s1, s2, s3⟩
    go_simp
    with_reducible rfl
  rotate_left
  · simp only [Act.put, List.setIfInBounds_toArray, List.set_cons_zero, List.set_cons_succ, i64_w, i32_w]
    rfl
  refine join_ (σ := Nat × Nat) 2 #[true, true, true, true, false, false] (fun s_ => [(8, .pointer (some ⟨s_.1, 0, none⟩)), (9, .pointer (some ⟨s_.2, 0, none⟩))]) (fun s_ w' => (w'.cell? ⟨b3, 0, none⟩ = some (.int .i64 x) ∧ w'.cell? ⟨b3, 1, none⟩ = some (.int .i64 y) ∧ w'.cell? ⟨b3, 2, none⟩ = some (.int .i64 z) ∧ w'.cell? ⟨b3, 3, none⟩ = some (.int .i64 e)) ∧ w'.heap[s_.1]? = some (.cells #[.int .i64 0, .int .i64 0, .int .i64 0, .int .i64 0] 40 (0, 0)) ∧ w'.heap[s_.2]? = some (.cells #[.int .i64 0, .int .i64 0, .int .i64 0, .int .i64 0] 40 (0, 0)) ∧ s_.1 ≠ s_.2 ∧ w2.drew.heap.size ≤ s_.1 ∧ w2.drew.heap.size ≤ s_.2 ∧ Below w2.drew.heap.size w2.drew w') ?_ ?_
  rotate_left
  · intro hCont
    refine two_ (i := 2) (j := 3) (Ni := some 8) (Nj := some 9) #[true, true, true, false, false, false] #[true, true, false, true, false, false] rfl rfl rfl rfl (by kernel_rfl) (by decide) (by decide) (fun K hK => ?_) (fun K hK => ?_)
    · skip
      refine box_step (N := 8) ?hw rfl (cs := #[.int .i64 0, .int .i64 0, .int .i64 0, .int .i64 0]) (t := 40) ?hr ?_
      case hw => rfl
      case hr => first | (go_simp; done) | (go_simp; rfl)
      intro g8 hg8 u8 hb8 hl8
      refine hK.out _ _ ⟨(blk_cell (blk_below (show w2.drew.heap[b3]? = _ from B3.out) hl8) 0).trans rfl, (blk_cell (blk_below (show w2.drew.heap[b3]? = _ from B3.out) hl8) 1).trans rfl, (blk_cell (blk_below (show w2.drew.heap[b3]? = _ from B3.out) hl8) 2).trans rfl, (blk_cell (blk_below (show w2.drew.heap[b3]? = _ from B3.out) hl8) 3).trans rfl⟩ (fun hHeld => ?_)
      clear hK K
      refine norm_ (a' := ?_) ?_ ?_
      rotate_left
      · show Act.put _ (some 8) _ = _
        simp only [Act.put, List.setIfInBounds_toArray, List.set_cons_zero, List.set_cons_succ, i64_w, i32_w]
        rfl
      refine one_ (i := 3) (N := some 9) #[true, true, true, true, false, false] rfl rfl (by kernel_rfl) (by decide) (fun K hK => ?_)
      refine box_step (N := 9) ?hw rfl (cs := #[.int .i64 0, .int .i64 0, .int .i64 0, .int .i64 0]) (t := 40) ?hr ?_
      case hw => rfl
      case hr => first | (go_simp; done) | (go_simp; rfl)
      intro g9 hg9 u9 hb9 hl9
      refine hK.out _ _ ⟨(blk_cell (blk_below (blk_below (show w2.drew.heap[b3]? = _ from B3.out) hl8) hl9) 0).trans rfl, (blk_cell (blk_below (blk_below (show w2.drew.heap[b3]? = _ from B3.out) hl8) hl9) 1).trans rfl, (blk_cell (blk_below (blk_below (show w2.drew.heap[b3]? = _ from B3.out) hl8) hl9) 2).trans rfl, (blk_cell (blk_below (blk_below (show w2.drew.heap[b3]? = _ from B3.out) hl8) hl9) 3).trans rfl⟩ (fun hHeld => ?_)
      clear hK K
      refine norm_ (a' := ?_) ?_ ?_
      rotate_left
      · show Act.put _ (some 9) _ = _
        simp only [Act.put, List.setIfInBounds_toArray, List.set_cons_zero, List.set_cons_succ, i64_w, i32_w]
        rfl
      exact norm_ (by simp only [putAll, Act.put, List.setIfInBounds_toArray, List.set_cons_zero, List.set_cons_succ]) (hCont (g8, g9) _ ⟨hHeld, blk_below hb8 hl9, hb9, (by rw [hg9]; exact Nat.ne_of_lt (blk_lt hb8)), (by rw [hg8]; exact Nat.le_refl _), (by rw [hg9]; exact hl8.size), below_step hl8 hl9⟩)
    · skip
      refine box_step (N := 9) ?hw rfl (cs := #[.int .i64 0, .int .i64 0, .int .i64 0, .int .i64 0]) (t := 40) ?hr ?_
      case hw => rfl
      case hr => first | (go_simp; done) | (go_simp; rfl)
      intro g9 hg9 u9 hb9 hl9
      refine hK.out _ _ ⟨(blk_cell (blk_below (show w2.drew.heap[b3]? = _ from B3.out) hl9) 0).trans rfl, (blk_cell (blk_below (show w2.drew.heap[b3]? = _ from B3.out) hl9) 1).trans rfl, (blk_cell (blk_below (show w2.drew.heap[b3]? = _ from B3.out) hl9) 2).trans rfl, (blk_cell (blk_below (show w2.drew.heap[b3]? = _ from B3.out) hl9) 3).trans rfl⟩ (fun hHeld => ?_)
      clear hK K
      refine norm_ (a' := ?_) ?_ ?_
      rotate_left
      · show Act.put _ (some 9) _ = _
        simp only [Act.put, List.setIfInBounds_toArray, List.set_cons_zero, List.set_cons_succ, i64_w, i32_w]
        rfl
      refine one_ (i := 2) (N := some 8) #[true, true, true, true, false, false] rfl rfl (by kernel_rfl) (by decide) (fun K hK => ?_)
      refine box_step (N := 8) ?hw rfl (cs := #[.int .i64 0, .int .i64 0, .int .i64 0, .int .i64 0]) (t := 40) ?hr ?_
      case hw => rfl
      case hr => first | (go_simp; done) | (go_simp; rfl)
      intro g8 hg8 u8 hb8 hl8
      refine hK.out _ _ ⟨(blk_cell (blk_below (blk_below (show w2.drew.heap[b3]? = _ from B3.out) hl9) hl8) 0).trans rfl, (blk_cell (blk_below (blk_below (show w2.drew.heap[b3]? = _ from B3.out) hl9) hl8) 1).trans rfl, (blk_cell (blk_below (blk_below (show w2.drew.heap[b3]? = _ from B3.out) hl9) hl8) 2).trans rfl, (blk_cell (blk_below (blk_below (show w2.drew.heap[b3]? = _ from B3.out) hl9) hl8) 3).trans rfl⟩ (fun hHeld => ?_)
      clear hK K
      refine norm_ (a' := ?_) ?_ ?_
      rotate_left
      · show Act.put _ (some 8) _ = _
        simp only [Act.put, List.setIfInBounds_toArray, List.set_cons_zero, List.set_cons_succ, i64_w, i32_w]
        rfl
      exact norm_ (by simp only [putAll, Act.put, List.setIfInBounds_toArray, List.set_cons_zero, List.set_cons_succ]) (hCont (g8, g9) _ ⟨hHeld, hb8, blk_below hb9 hl8, (by intro he_; exact absurd he_.symm (by rw [hg8]; exact Nat.ne_of_lt (blk_lt hb9))), (by rw [hg8]; exact hl9.size), (by rw [hg9]; exact Nat.le_refl _), below_step hl9 hl8⟩)
  rintro ⟨g8, g9⟩ u ⟨hHeld, q8, q9, q89, ge8, ge9, qB⟩
  have Q8 := Aside0.mk q8
  have Q9 := Aside0.mk q9
  have N89 := Aside0.mk q89
  have n0_ := Aside0.mk (below_step HB.out.drew qB)
  have N38 := Aside0.mk (show b3 ≠ g8 from Nat.ne_of_lt (Nat.lt_of_lt_of_le (blk_lt B3.out) ge8))
  have N39 := Aside0.mk (show b3 ≠ g9 from Nat.ne_of_lt (Nat.lt_of_lt_of_le (blk_lt B3.out) ge9))
  have N68 := Aside0.mk (show b6 ≠ g8 from Nat.ne_of_lt (Nat.lt_of_lt_of_le (blk_lt B6.out) ge8))
  have N69 := Aside0.mk (show b6 ≠ g9 from Nat.ne_of_lt (Nat.lt_of_lt_of_le (blk_lt B6.out) ge9))
  have N78 := Aside0.mk (show b7 ≠ g8 from Nat.ne_of_lt (Nat.lt_of_lt_of_le (blk_lt B7.out) ge8))
  have N79 := Aside0.mk (show b7 ≠ g9 from Nat.ne_of_lt (Nat.lt_of_lt_of_le (blk_lt B7.out) ge9))
  have G8 := Aside0.mk (Nat.le_trans HB.out.size ge8)
  have G9 := Aside0.mk (Nat.le_trans HB.out.size ge9)
  have n3_ := Aside0.mk (blk_below (show w2.drew.heap[b3]? = _ from B3.out) qB)
  have n6_ := Aside0.mk (blk_below (show w2.drew.heap[b6]? = _ from B6.out) qB)
  have n7_ := Aside0.mk (blk_below (show w2.drew.heap[b7]? = _ from B7.out) qB)
  clear HB B3 B6 B7 q8 q9 q89 ge8 ge9 qB
  have HB := n0_
  have B3 := n3_
  have B6 := n6_
  have B7 := n7_
  clear n0_ n3_ n6_ n7_
  have hz0 := (blk_cell Q8.out 0).trans (show _ = some (.int .i64 0) from rfl)
  have hz1 := (blk_cell Q8.out 1).trans (show _ = some (.int .i64 0) from rfl)
  have hz2 := (blk_cell Q8.out 2).trans (show _ = some (.int .i64 0) from rfl)
  have hz3 := (blk_cell Q8.out 3).trans (show _ = some (.int .i64 0) from rfl)
  have hf0 := blk_frozen Q8.out 0
  have hf1 := blk_frozen Q8.out 1
  have hf2 := blk_frozen Q8.out 2
  have hf3 := blk_frozen Q8.out 3
  refine norm_ (a' := ?_) ?_ ?_
  rotate_left
  · simp only [putAll, Act.put, List.setIfInBounds_toArray, List.set_cons_zero, List.set_cons_succ]
    rfl
  refine one_ (i := 4) (N := none) #[true, true, true, true, true, false] rfl rfl (by kernel_rfl) (by decide) (fun K hK => ?_)
  refine skip_ (w1 := ?_) (by rfl) rfl ?_ ?_
  rotate_left
  · go_simp
    rfl
  clear hz0 hz1 hz2 hz3 hf0 hf1 hf2 hf3
  have Q9b := Aside0.mk (blk_set4 Q9.out (Ne.symm N89.out) (.int .i64 x) (.int .i64 y) (.int .i64 z) (.int .i64 e))
  have B3b := Aside0.mk (blk_set4 B3.out N38.out (.int .i64 x) (.int .i64 y) (.int .i64 z) (.int .i64 e))
  have hy0 := (blk_cell Q9b.out 0).trans (show _ = some (.int .i64 0) from rfl)
  have hy1 := (blk_cell Q9b.out 1).trans (show _ = some (.int .i64 0) from rfl)
  have hy2 := (blk_cell Q9b.out 2).trans (show _ = some (.int .i64 0) from rfl)
  have hy3 := (blk_cell Q9b.out 3).trans (show _ = some (.int .i64 0) from rfl)
  have hq0 := blk_frozen Q9b.out 0
  have hq1 := blk_frozen Q9b.out 1
  have hq2 := blk_frozen Q9b.out 2
  have hq3 := blk_frozen Q9b.out 3
  refine hK.out _ _ ⟨(blk_cell B3b.out 0).trans rfl, (blk_cell B3b.out 1).trans rfl, (blk_cell B3b.out 2).trans rfl, (blk_cell B3b.out 3).trans rfl⟩ (fun hHeld => ?_)
  clear hK K
  refine last_ (i := 5) (N := none) #[true, true, true, true, true, true] rfl rfl (by kernel_rfl) (by decide) (fun K hK => ?_)
  refine skip_ (w1 := ?_) (by rfl) rfl ?_ ?_
  rotate_left
  · go_simp
    rfl
  refine hK.out _ _ ?_
  clear hK K
  refine done_ (by kernel_rfl) ?_
  clear hy0 hy1 hy2 hy3 hq0 hq1 hq2 hq3
  have n8_ := Aside0.mk (blk_set4 (blk_put4 Q8.out (.int .i64 x) (.int .i64 y) (.int .i64 z) (.int .i64 e)) N89.out (.int .i64 x) (.int .i64 y) (.int .i64 z) (.int .i64 e))
  have n9_ := Aside0.mk (blk_put4 Q9b.out (.int .i64 x) (.int .i64 y) (.int .i64 z) (.int .i64 e))
  have n3_ := Aside0.mk (blk_set4 B3b.out N39.out (.int .i64 x) (.int .i64 y) (.int .i64 z) (.int .i64 e))
  have n6_ := Aside0.mk (blk_set4 (blk_set4 B6.out N68.out (.int .i64 x) (.int .i64 y) (.int .i64 z) (.int .i64 e)) N69.out (.int .i64 x) (.int .i64 y) (.int .i64 z) (.int .i64 e))
  have n7_ := Aside0.mk (blk_set4 (blk_set4 B7.out N78.out (.int .i64 x) (.int .i64 y) (.int .i64 z) (.int .i64 e)) N79.out (.int .i64 x) (.int .i64 y) (.int .i64 z) (.int .i64 e))
  have n0_ := Aside0.mk (below_set4 (below_set4 HB.out G8.out (.int .i64 x) (.int .i64 y) (.int .i64 z) (.int .i64 e)) G9.out (.int .i64 x) (.int .i64 y) (.int .i64 z) (.int .i64 e))
  clear Q8 Q9 Q9b B3 B3b B6 B7 HB
  have Q8 := n8_
  have Q9 := n9_
  have B3 := n3_
  have B6 := n6_
  have B7 := n7_
  have HB := n0_
  clear n8_ n9_ n3_ n6_ n7_ n0_
  generalize ((((((((u.setCell ⟨g8, 0, none⟩ (.int .i64 x)).setCell ⟨g8, 1, none⟩ (.int .i64 y)).setCell ⟨g8, 2, none⟩ (.int .i64 z)).setCell ⟨g8, 3, none⟩ (.int .i64 e)).setCell ⟨g9, 0, none⟩ (.int .i64 x)).setCell ⟨g9, 1, none⟩ (.int .i64 y)).setCell ⟨g9, 2, none⟩ (.int .i64 z)).setCell ⟨g9, 3, none⟩ (.int .i64 e)) = u2 at Q8 Q9 B3 B6 B7 HB ⊢
  go_wp2
  have hz0 := (blk_cell Q8.out 0).trans (show _ = some (.int .i64 x) from rfl)
  have hz1 := (blk_cell Q8.out 1).trans (show _ = some (.int .i64 y) from rfl)
  have hz2 := (blk_cell Q8.out 2).trans (show _ = some (.int .i64 z) from rfl)
  have hz3 := (blk_cell Q8.out 3).trans (show _ = some (.int .i64 e) from rfl)
  have hf0 := blk_frozen Q8.out 0
  have hf1 := blk_frozen Q8.out 1
  have hf2 := blk_frozen Q8.out 2
  have hf3 := blk_frozen Q8.out 3
  have he3 : u2.cell? ⟨b3, 3, none⟩ = some (.int .i64 e) := (blk_cell B3.out 3).trans rfl
  have hw1 : IntKind.i64.wrap (f - 1) = f - 1 := by rw [i64_w]; unfold wrap64; omega
  have hw2 : IntKind.i64.wrap (e - 1) = e - 1 := by clear hw1; rw [i64_w]; unfold wrap64; omega
  refine start_ (n := 11) (S := fun w' => w'.cell? ⟨b3, 3, none⟩ = some (.int .i64 e)) (ds := [10]) #[false, false, false, false, false, false, false, false, false, false, false] (by kernel_rfl) rfl rfl (he3) (fun hHeld => ?_)
  refine pure_ (i := 0) (N := some 12) (v := ?_) (a' := ?_) #[true, false, false, false, false, false, false, false, false, false, false] rfl rfl (by kernel_rfl) (fun _ _ _ h => h) (Or.inl ⟨by rfl, ?_⟩) ?_ ?_
  rotate_left
  · intro w'
    go_simp
    with_reducible rfl
  rotate_left
  · simp only [Act.put, List.setIfInBounds_toArray, List.set_cons_zero, List.set_cons_succ, i64_w, i32_w]
    rfl
  refine pure_ (i := 1) (N := some 13) (v := ?_) (a' := ?_) #[true, true, false, false, false, false, false, false, false, false, false] rfl rfl (by kernel_rfl) (fun _ _ _ h => h) (Or.inl ⟨by rfl, ?_⟩) ?_ ?_
  rotate_left
  · intro w'
    go_simp
    with_reducible rfl
  rotate_left
  · simp only [Act.put, List.setIfInBounds_toArray, List.set_cons_zero, List.set_cons_succ, i64_w, i32_w]
    rfl
  refine pure_ (i := 2) (N := some 14) (v := ?_) (a' := ?_) #[true, true, true, false, false, false, false, false, false, false, false] rfl rfl (by kernel_rfl) (fun _ _ _ h => h) (Or.inl ⟨by rfl, ?_⟩) ?_ ?_
  rotate_left
  · intro w'
    go_simp
    with_reducible rfl
  rotate_left
  · simp only [Act.put, List.setIfInBounds_toArray, List.set_cons_zero, List.set_cons_succ, i64_w, i32_w]
    rfl
  refine pure_ (i := 3) (N := some 15) (v := ?_) (a' := ?_) #[true, true, true, true, false, false, false, false, false, false, false] rfl rfl (by kernel_rfl) (fun _ _ _ h => h) (Or.inl ⟨by rfl, ?_⟩) ?_ ?_
  rotate_left
  · intro w'
    go_simp
    with_reducible rfl
  rotate_left
  · simp only [Act.put, List.setIfInBounds_toArray, List.set_cons_zero, List.set_cons_succ, i64_w, i32_w]
    rfl
  refine pure_ (i := 6) (N := some 18) (v := ?_) (a' := ?_) #[true, true, true, true, false, false, true, false, false, false, false] rfl rfl (by kernel_rfl) (fun _ _ _ h => h) (Or.inl ⟨by rfl, ?_⟩) ?_ ?_
  rotate_left
  · intro w'
    go_simp
    with_reducible rfl
  rotate_left
  · simp only [Act.put, List.setIfInBounds_toArray, List.set_cons_zero, List.set_cons_succ, i64_w, i32_w]
    rfl
  refine pure_ (i := 7) (N := some 19) (v := ?_) (a' := ?_) #[true, true, true, true, false, false, true, true, false, false, false] rfl rfl (by kernel_rfl) (fun _ _ _ h => h) (Or.inl ⟨by rfl, ?_⟩) ?_ ?_
  rotate_left
  · intro w'
    go_simp
    with_reducible rfl
  rotate_left
  · simp only [Act.put, List.setIfInBounds_toArray, List.set_cons_zero, List.set_cons_succ, i64_w, i32_w]
    rfl
  refine take_ (i := 4) (N := some 16) (v := ?_) (a' := ?_) #[true, true, true, true, true, false, true, true, false, false, false] rfl rfl (by kernel_rfl) (fun _ _ _ h => h) (Or.inl ⟨by rfl, ?_⟩) hHeld ?_ ?_
  rotate_left
  · intro w' s0
    go_simp
    with_reducible rfl
  rotate_left
  · simp only [Act.put, List.setIfInBounds_toArray, List.set_cons_zero, List.set_cons_succ, i64_w, i32_w]
    rfl
  refine pure_ (i := 5) (N := some 17) (v := ?_) (a' := ?_) #[true, true, true, true, true, true, true, true, false, false, false] rfl rfl (by kernel_rfl) (fun _ _ _ h => h) (Or.inl ⟨by rfl, ?_⟩) ?_ ?_
  rotate_left
  · intro w'
    go_simp
    with_reducible rfl
  rotate_left
  · simp only [Act.put, List.setIfInBounds_toArray, List.set_cons_zero, List.set_cons_succ, i64_w, i32_w]
    rfl
  refine one_ (i := 8) (N := none) #[true, true, true, true, true, true, true, true, true, false, false] rfl rfl (by kernel_rfl) (by decide) (fun K hK => ?_)
  refine skip_ (w1 := ?_) (by rfl) rfl ?_ ?_
  rotate_left
  · go_simp
    rfl
  have Q8b := Aside0.mk (blk_put (cs' := #[.int .i64 x, .int .i64 (f - 1), .int .i64 z, .int .i64 e]) Q8.out 1 (.int .i64 (f - 1)) rfl)
  have B3b := Aside0.mk (blk_far B3.out (p := ⟨g8, 1, none⟩) N38.out (.int .i64 (f - 1)))
  refine hK.out _ _ ((blk_cell B3b.out 3).trans rfl) (fun hHeld => ?_)
  clear hK K
  refine pure_ (i := 9) (N := some 20) (v := ?_) (a' := ?_) #[true, true, true, true, true, true, true, true, true, true, false] rfl rfl (by kernel_rfl) (fun _ _ _ h => h) (Or.inl ⟨by rfl, ?_⟩) ?_ ?_
  rotate_left
  · intro w'
    go_simp
    with_reducible rfl
  rotate_left
  · simp only [Act.put, List.setIfInBounds_toArray, List.set_cons_zero, List.set_cons_succ, i64_w, i32_w]
    rfl
  refine last_ (i := 10) (N := none) #[true, true, true, true, true, true, true, true, true, true, true] rfl rfl (by kernel_rfl) (by decide) (fun K hK => ?_)
  refine skip_ (w1 := ?_) (by rfl) rfl ?_ ?_
  rotate_left
  · go_simp
    rfl
  refine hK.out _ _ ?_
  clear hK K
  refine done_ (by kernel_rfl) ?_
  clear hz0 hz1 hz2 hz3 hf0 hf1 hf2 hf3
  clear he3
  have n8_ := Aside0.mk (show ((u2.setCell ⟨g8, 1, none⟩ (.int .i64 (f - 1))).setCell ⟨g8, 3, none⟩ (.int .i64 (e - 1))).drew.heap[g8]? = _ from blk_put (cs' := #[.int .i64 x, .int .i64 (f - 1), .int .i64 z, .int .i64 (e - 1)]) Q8b.out 3 (.int .i64 (e - 1)) rfl)
  have N98 := Aside0.mk (Ne.symm N89.out)
  have n9_ := Aside0.mk (show ((u2.setCell ⟨g8, 1, none⟩ (.int .i64 (f - 1))).setCell ⟨g8, 3, none⟩ (.int .i64 (e - 1))).drew.heap[g9]? = _ from blk_far (blk_far Q9.out (p := ⟨g8, 1, none⟩) N98.out (.int .i64 (f - 1))) (p := ⟨g8, 3, none⟩) N98.out (.int .i64 (e - 1)))
  have n6_ := Aside0.mk (show ((u2.setCell ⟨g8, 1, none⟩ (.int .i64 (f - 1))).setCell ⟨g8, 3, none⟩ (.int .i64 (e - 1))).drew.heap[b6]? = _ from blk_far (blk_far B6.out (p := ⟨g8, 1, none⟩) N68.out (.int .i64 (f - 1))) (p := ⟨g8, 3, none⟩) N68.out (.int .i64 (e - 1)))
  have n7_ := Aside0.mk (show ((u2.setCell ⟨g8, 1, none⟩ (.int .i64 (f - 1))).setCell ⟨g8, 3, none⟩ (.int .i64 (e - 1))).drew.heap[b7]? = _ from blk_far (blk_far B7.out (p := ⟨g8, 1, none⟩) N78.out (.int .i64 (f - 1))) (p := ⟨g8, 3, none⟩) N78.out (.int .i64 (e - 1)))
  have n0_ := Aside0.mk (show Below w.heap.size w ((u2.setCell ⟨g8, 1, none⟩ (.int .i64 (f - 1))).setCell ⟨g8, 3, none⟩ (.int .i64 (e - 1))).drew from ((HB.out.setCell (p := ⟨g8, 1, none⟩) G8.out (.int .i64 (f - 1))).setCell (p := ⟨g8, 3, none⟩) G8.out (.int .i64 (e - 1))).drew)
  clear Q8 Q8b Q9 B3 B3b B6 B7 HB hw1 hw2
  have Q8 := n8_
  have Q9 := n9_
  have B6 := n6_
  have B7 := n7_
  have HB := n0_
  clear n8_ n9_ n6_ n7_ n0_
  generalize ((u2.setCell ⟨g8, 1, none⟩ (.int .i64 (f - 1))).setCell ⟨g8, 3, none⟩ (.int .i64 (e - 1))).drew = u3 at Q8 Q9 B6 B7 HB ⊢
  have hz0 := (blk_cell Q9.out 0).trans (show _ = some (.int .i64 x) from rfl)
  have hz1 := (blk_cell Q9.out 1).trans (show _ = some (.int .i64 y) from rfl)
  have hz2 := (blk_cell Q9.out 2).trans (show _ = some (.int .i64 z) from rfl)
  have hz3 := (blk_cell Q9.out 3).trans (show _ = some (.int .i64 e) from rfl)
  have hf0 := blk_frozen Q9.out 0
  have hf1 := blk_frozen Q9.out 1
  have hf2 := blk_frozen Q9.out 2
  have hf3 := blk_frozen Q9.out 3
  have hw3 : IntKind.i64.wrap (y - f) = y - f := by rw [i64_w]; unfold wrap64; omega
  go_wp2
  clear hz0 hz1 hz2 hz3 hf0 hf1 hf2 hf3
  have n9_ := Aside0.mk (blk_put (cs' := #[.int .i64 x, .int .i64 (y - f), .int .i64 z, .int .i64 e]) Q9.out 1 (.int .i64 (y - f)) rfl)
  have n8_ := Aside0.mk (blk_far Q8.out (p := ⟨g9, 1, none⟩) N89.out (.int .i64 (y - f)))
  have n6_ := Aside0.mk (blk_far B6.out (p := ⟨g9, 1, none⟩) N69.out (.int .i64 (y - f)))
  have n7_ := Aside0.mk (blk_far B7.out (p := ⟨g9, 1, none⟩) N79.out (.int .i64 (y - f)))
  have n0_ := Aside0.mk (HB.out.setCell (p := ⟨g9, 1, none⟩) G9.out (.int .i64 (y - f)))
  clear Q8 Q9 B6 B7 HB hw3
  have Q8 := n8_
  have Q9 := n9_
  have B6 := n6_
  have B7 := n7_
  have HB := n0_
  clear n8_ n9_ n6_ n7_ n0_
  generalize (u3.setCell ⟨g9, 1, none⟩ (.int .i64 (y - f))) = u4 at Q8 Q9 B6 B7 HB ⊢
  have hz0 := (blk_cell B6.out 0).trans (show _ = some (.int .i64 0) from rfl)
  have hz1 := (blk_cell B6.out 1).trans (show _ = some (.int .i64 0) from rfl)
  have hz2 := (blk_cell B6.out 2).trans (show _ = some (.int .i64 0) from rfl)
  have hz3 := (blk_cell B6.out 3).trans (show _ = some (.int .i64 0) from rfl)
  have hf0 := blk_frozen B6.out 0
  have hf1 := blk_frozen B6.out 1
  have hf2 := blk_frozen B6.out 2
  have hf3 := blk_frozen B6.out 3
  refine start_ (n := 4) (S := fun w' => w'.cell? ⟨g8, 0, none⟩ = some (.int .i64 x) ∧ w'.cell? ⟨g8, 1, none⟩ = some (.int .i64 (f - 1)) ∧ w'.cell? ⟨g8, 2, none⟩ = some (.int .i64 z) ∧ w'.cell? ⟨g8, 3, none⟩ = some (.int .i64 (e - 1)) ∧ w'.cell? ⟨g9, 0, none⟩ = some (.int .i64 x) ∧ w'.cell? ⟨g9, 1, none⟩ = some (.int .i64 (y - f)) ∧ w'.cell? ⟨g9, 2, none⟩ = some (.int .i64 z) ∧ w'.cell? ⟨g9, 3, none⟩ = some (.int .i64 e)) (ds := [3]) #[false, false, false, false] (by kernel_rfl) rfl rfl ⟨(blk_cell (show u4.drew.heap[g8]? = _ from Q8.out) 0).trans rfl, (blk_cell (show u4.drew.heap[g8]? = _ from Q8.out) 1).trans rfl, (blk_cell (show u4.drew.heap[g8]? = _ from Q8.out) 2).trans rfl, (blk_cell (show u4.drew.heap[g8]? = _ from Q8.out) 3).trans rfl, (blk_cell (show u4.drew.heap[g9]? = _ from Q9.out) 0).trans rfl, (blk_cell (show u4.drew.heap[g9]? = _ from Q9.out) 1).trans rfl, (blk_cell (show u4.drew.heap[g9]? = _ from Q9.out) 2).trans rfl, (blk_cell (show u4.drew.heap[g9]? = _ from Q9.out) 3).trans rfl⟩ (fun hHeld => ?_)
  refine take_ (i := 0) (N := some 29) (v := ?_) (a' := ?_) #[true, false, false, false] rfl rfl (by kernel_rfl) (fun _ _ _ h => h) (Or.inl ⟨by rfl, ?_⟩) hHeld ?_ ?_
  rotate_left
  · rintro w' ⟨s0, s1, s2, s3, s4, s5, s6, s7⟩
    go_simp
    with_reducible rfl
  rotate_left
  · simp only [Act.put, List.setIfInBounds_toArray, List.set_cons_zero, List.set_cons_succ, i64_w, i32_w]
    rfl
  refine take_ (i := 1) (N := some 30) (v := ?_) (a' := ?_) #[true, true, false, false] rfl rfl (by kernel_rfl) (fun _ _ _ h => h) (Or.inl ⟨by rfl, ?_⟩) hHeld ?_ ?_
  rotate_left
  · rintro w' ⟨s0, s1, s2, s3, s4, s5, s6, s7⟩
    go_simp
    with_reducible rfl
  rotate_left
  · simp only [Act.put, List.setIfInBounds_toArray, List.set_cons_zero, List.set_cons_succ, i64_w, i32_w]
    rfl
  refine one_ (i := 2) (N := none) #[true, true, true, false] rfl rfl (by kernel_rfl) (by decide) (fun K hK => ?_)
  refine skip_ (w1 := ?_) (by rfl) rfl ?_ ?_
  rotate_left
  · go_simp
    rfl
  clear hz0 hz1 hz2 hz3 hf0 hf1 hf2 hf3
  have Q8b := Aside0.mk (show ((((u4.setCell ⟨b6, 0, none⟩ (.int .i64 x)).setCell ⟨b6, 1, none⟩ (.int .i64 (f - 1))).setCell ⟨b6, 2, none⟩ (.int .i64 z)).setCell ⟨b6, 3, none⟩ (.int .i64 (e - 1))).drew.heap[g8]? = _ from blk_set4 Q8.out (Ne.symm N68.out) (.int .i64 x) (.int .i64 (f - 1)) (.int .i64 z) (.int .i64 (e - 1)))
  have Q9b := Aside0.mk (show ((((u4.setCell ⟨b6, 0, none⟩ (.int .i64 x)).setCell ⟨b6, 1, none⟩ (.int .i64 (f - 1))).setCell ⟨b6, 2, none⟩ (.int .i64 z)).setCell ⟨b6, 3, none⟩ (.int .i64 (e - 1))).drew.heap[g9]? = _ from blk_set4 Q9.out (Ne.symm N69.out) (.int .i64 x) (.int .i64 (f - 1)) (.int .i64 z) (.int .i64 (e - 1)))
  have B7b := Aside0.mk (blk_set4 B7.out (Ne.symm Nb6b7.out) (.int .i64 x) (.int .i64 (f - 1)) (.int .i64 z) (.int .i64 (e - 1)))
  have hy0 := (blk_cell B7b.out 0).trans (show _ = some (.int .i64 0) from rfl)
  have hy1 := (blk_cell B7b.out 1).trans (show _ = some (.int .i64 0) from rfl)
  have hy2 := (blk_cell B7b.out 2).trans (show _ = some (.int .i64 0) from rfl)
  have hy3 := (blk_cell B7b.out 3).trans (show _ = some (.int .i64 0) from rfl)
  have hq0 := blk_frozen B7b.out 0
  have hq1 := blk_frozen B7b.out 1
  have hq2 := blk_frozen B7b.out 2
  have hq3 := blk_frozen B7b.out 3
  refine hK.out _ _ ⟨(blk_cell Q8b.out 0).trans rfl, (blk_cell Q8b.out 1).trans rfl, (blk_cell Q8b.out 2).trans rfl, (blk_cell Q8b.out 3).trans rfl, (blk_cell Q9b.out 0).trans rfl, (blk_cell Q9b.out 1).trans rfl, (blk_cell Q9b.out 2).trans rfl, (blk_cell Q9b.out 3).trans rfl⟩ (fun hHeld => ?_)
  clear hK K
  refine last_ (i := 3) (N := none) #[true, true, true, true] rfl rfl (by kernel_rfl) (by decide) (fun K hK => ?_)
  refine skip_ (w1 := ?_) (by rfl) rfl ?_ ?_
  rotate_left
  · go_simp
    rfl
  refine hK.out _ _ ?_
  clear hK K
  refine done_ (by kernel_rfl) ?_
  clear hy0 hy1 hy2 hy3 hq0 hq1 hq2 hq3
  have m6_ := blk_set4 (blk_put4 B6.out (.int .i64 x) (.int .i64 (f - 1)) (.int .i64 z) (.int .i64 (e - 1))) Nb6b7.out (.int .i64 x) (.int .i64 (y - f)) (.int .i64 z) (.int .i64 e)
  have m7_ := blk_put4 B7b.out (.int .i64 x) (.int .i64 (y - f)) (.int .i64 z) (.int .i64 e)
  have m0_ := below_set4 (below_set4 HB.out Gb6.out (.int .i64 x) (.int .i64 (f - 1)) (.int .i64 z) (.int .i64 (e - 1))) Gb7.out (.int .i64 x) (.int .i64 (y - f)) (.int .i64 z) (.int .i64 e)
  have n6_ := Aside0.mk (blk_drew m6_)
  have n7_ := Aside0.mk (blk_drew m7_)
  have n0_ := Aside0.mk m0_.drew
  clear m6_ m7_ m0_
  go_wp2
  refine bodyPost_ret (results_cc rfl _ _ b6 b7 40 40 #[.int .i64 x, .int .i64 (f - 1), .int .i64 z, .int .i64 (e - 1)] #[.int .i64 x, .int .i64 (y - f), .int .i64 z, .int .i64 e] (0, 0) (0, 0) _ _ rfl n6_.out Try.underlying40 rfl (by kernel_rfl) rfl n7_.out Try.underlying40 rfl (by kernel_rfl)) rfl ?_
  exact ⟨rfl, n0_.out⟩
set_option maxHeartbeats 8000000 in
set_option maxRecDepth 100000 in
theorem parts2 (e x y z f : Int) (hx : 0 ≤ x ∧ x ≤ 8) (hy : 0 ≤ y ∧ y ≤ 8) (hz : 0 ≤ z ∧ z ≤ 8) (he : 0 ≤ e ∧ e ≤ 10) (hf : 0 ≤ f ∧ f ≤ 10) (w : World) :
    Calls Try.prog 44 #[.agg #[.int .i64 x, .int .i64 y, .int .i64 z, .int .i64 e], .int .i64 2, .int .i64 f] w fun e_ w' => e_ = .returned (.tuple #[.agg #[.int .i64 x, .int .i64 y, .int .i64 (f - 1), .int .i64 (e - 1)], .agg #[.int .i64 x, .int .i64 y, .int .i64 (z - f), .int .i64 e]]) ∧ Below w.heap.size w w' := by
  have HB := Aside0.mk (Below.refl w.heap.size w)
  go_enter Try.func44, Try.ntmps44
  go_wp2_with (first
    | ((with_reducible refine gate_dst (N := 3) rfl ?_); refine box_event ?hg (N := 3) ?hd (cs := #[.int .i64 x, .int .i64 y, .int .i64 z, .int .i64 e]) (t := 40) ?hr ?_; (case hd => rfl); (case hg => rfl); (case hr => first | (go_simp; done) | (go_simp; rfl)); intro b3 hg w2 hbox hb; have Gb3 := Aside0.mk (show w.heap.size ≤ b3 by rw [hg]; exact HB.out.size); have B3 := Aside0.mk hbox; have n0_ := Aside0.mk (below_step HB.out hb); clear HB; have HB := n0_; clear n0_ hg hbox hb)
    | ((with_reducible refine gate_dst (N := 6) rfl ?_); refine box_event ?hg (N := 6) ?hd (cs := #[.int .i64 0, .int .i64 0, .int .i64 0, .int .i64 0]) (t := 40) ?hr ?_; (case hd => rfl); (case hg => rfl); (case hr => first | (go_simp; done) | (go_simp; rfl)); intro b6 hg w2 hbox hb; have Gb6 := Aside0.mk (show w.heap.size ≤ b6 by rw [hg]; exact HB.out.size); have Nb3b6 := Aside0.mk (show b3 ≠ b6 by rw [hg]; exact Nat.ne_of_lt (blk_lt B3.out)); have n1_ := Aside0.mk (blk_below B3.out hb); clear B3; have B3 := n1_; clear n1_; have B6 := Aside0.mk hbox; have n0_ := Aside0.mk (below_step HB.out hb); clear HB; have HB := n0_; clear n0_ hg hbox hb)
    | ((with_reducible refine gate_dst (N := 7) rfl ?_); refine box_event ?hg (N := 7) ?hd (cs := #[.int .i64 0, .int .i64 0, .int .i64 0, .int .i64 0]) (t := 40) ?hr ?_; (case hd => rfl); (case hg => rfl); (case hr => first | (go_simp; done) | (go_simp; rfl)); intro b7 hg w2 hbox hb; have Gb7 := Aside0.mk (show w.heap.size ≤ b7 by rw [hg]; exact HB.out.size); have Nb3b7 := Aside0.mk (show b3 ≠ b7 by rw [hg]; exact Nat.ne_of_lt (blk_lt B3.out)); have n1_ := Aside0.mk (blk_below B3.out hb); clear B3; have B3 := n1_; clear n1_; have Nb6b7 := Aside0.mk (show b6 ≠ b7 by rw [hg]; exact Nat.ne_of_lt (blk_lt B6.out)); have n1_ := Aside0.mk (blk_below B6.out hb); clear B6; have B6 := n1_; clear n1_; have B7 := Aside0.mk hbox; have n0_ := Aside0.mk (below_step HB.out hb); clear HB; have HB := n0_; clear n0_ hg hbox hb))
  refine start_ (n := 6) (S := fun w' => w'.cell? ⟨b3, 0, none⟩ = some (.int .i64 x) ∧ w'.cell? ⟨b3, 1, none⟩ = some (.int .i64 y) ∧ w'.cell? ⟨b3, 2, none⟩ = some (.int .i64 z) ∧ w'.cell? ⟨b3, 3, none⟩ = some (.int .i64 e)) (ds := [5]) #[false, false, false, false, false, false] (by kernel_rfl) rfl rfl ⟨(blk_cell (show w2.drew.heap[b3]? = _ from B3.out) 0).trans rfl, (blk_cell (show w2.drew.heap[b3]? = _ from B3.out) 1).trans rfl, (blk_cell (show w2.drew.heap[b3]? = _ from B3.out) 2).trans rfl, (blk_cell (show w2.drew.heap[b3]? = _ from B3.out) 3).trans rfl⟩ (fun hHeld => ?_)
  refine take_ (i := 0) (N := some 10) (v := ?_) (a' := ?_) #[true, false, false, false, false, false] rfl rfl (by kernel_rfl) (fun _ _ _ h => h) (Or.inl ⟨by rfl, ?_⟩) hHeld ?_ ?_
  rotate_left
  · rintro w' ⟨s0, s1, s2, s3⟩
    go_simp
    with_reducible rfl
  rotate_left
  · simp only [Act.put, List.setIfInBounds_toArray, List.set_cons_zero, List.set_cons_succ, i64_w, i32_w]
    rfl
  refine take_ (i := 1) (N := some 11) (v := ?_) (a' := ?_) #[true, true, false, false, false, false] rfl rfl (by kernel_rfl) (fun _ _ _ h => h) (Or.inl ⟨by rfl, ?_⟩) hHeld ?_ ?_
  rotate_left
  · rintro w' ⟨s0, s1, s2, s3⟩
    go_simp
    with_reducible rfl
  rotate_left
  · simp only [Act.put, List.setIfInBounds_toArray, List.set_cons_zero, List.set_cons_succ, i64_w, i32_w]
    rfl
  refine join_ (σ := Nat × Nat) 2 #[true, true, true, true, false, false] (fun s_ => [(8, .pointer (some ⟨s_.1, 0, none⟩)), (9, .pointer (some ⟨s_.2, 0, none⟩))]) (fun s_ w' => (w'.cell? ⟨b3, 0, none⟩ = some (.int .i64 x) ∧ w'.cell? ⟨b3, 1, none⟩ = some (.int .i64 y) ∧ w'.cell? ⟨b3, 2, none⟩ = some (.int .i64 z) ∧ w'.cell? ⟨b3, 3, none⟩ = some (.int .i64 e)) ∧ w'.heap[s_.1]? = some (.cells #[.int .i64 0, .int .i64 0, .int .i64 0, .int .i64 0] 40 (0, 0)) ∧ w'.heap[s_.2]? = some (.cells #[.int .i64 0, .int .i64 0, .int .i64 0, .int .i64 0] 40 (0, 0)) ∧ s_.1 ≠ s_.2 ∧ w2.drew.heap.size ≤ s_.1 ∧ w2.drew.heap.size ≤ s_.2 ∧ Below w2.drew.heap.size w2.drew w') ?_ ?_
  rotate_left
  · intro hCont
    refine two_ (i := 2) (j := 3) (Ni := some 8) (Nj := some 9) #[true, true, true, false, false, false] #[true, true, false, true, false, false] rfl rfl rfl rfl (by kernel_rfl) (by decide) (by decide) (fun K hK => ?_) (fun K hK => ?_)
    · skip
      refine box_step (N := 8) ?hw rfl (cs := #[.int .i64 0, .int .i64 0, .int .i64 0, .int .i64 0]) (t := 40) ?hr ?_
      case hw => rfl
      case hr => first | (go_simp; done) | (go_simp; rfl)
      intro g8 hg8 u8 hb8 hl8
      refine hK.out _ _ ⟨(blk_cell (blk_below (show w2.drew.heap[b3]? = _ from B3.out) hl8) 0).trans rfl, (blk_cell (blk_below (show w2.drew.heap[b3]? = _ from B3.out) hl8) 1).trans rfl, (blk_cell (blk_below (show w2.drew.heap[b3]? = _ from B3.out) hl8) 2).trans rfl, (blk_cell (blk_below (show w2.drew.heap[b3]? = _ from B3.out) hl8) 3).trans rfl⟩ (fun hHeld => ?_)
      clear hK K
      refine norm_ (a' := ?_) ?_ ?_
      rotate_left
      · show Act.put _ (some 8) _ = _
        simp only [Act.put, List.setIfInBounds_toArray, List.set_cons_zero, List.set_cons_succ, i64_w, i32_w]
        rfl
      refine one_ (i := 3) (N := some 9) #[true, true, true, true, false, false] rfl rfl (by kernel_rfl) (by decide) (fun K hK => ?_)
      refine box_step (N := 9) ?hw rfl (cs := #[.int .i64 0, .int .i64 0, .int .i64 0, .int .i64 0]) (t := 40) ?hr ?_
      case hw => rfl
      case hr => first | (go_simp; done) | (go_simp; rfl)
      intro g9 hg9 u9 hb9 hl9
      refine hK.out _ _ ⟨(blk_cell (blk_below (blk_below (show w2.drew.heap[b3]? = _ from B3.out) hl8) hl9) 0).trans rfl, (blk_cell (blk_below (blk_below (show w2.drew.heap[b3]? = _ from B3.out) hl8) hl9) 1).trans rfl, (blk_cell (blk_below (blk_below (show w2.drew.heap[b3]? = _ from B3.out) hl8) hl9) 2).trans rfl, (blk_cell (blk_below (blk_below (show w2.drew.heap[b3]? = _ from B3.out) hl8) hl9) 3).trans rfl⟩ (fun hHeld => ?_)
      clear hK K
      refine norm_ (a' := ?_) ?_ ?_
      rotate_left
      · show Act.put _ (some 9) _ = _
        simp only [Act.put, List.setIfInBounds_toArray, List.set_cons_zero, List.set_cons_succ, i64_w, i32_w]
        rfl
      exact norm_ (by simp only [putAll, Act.put, List.setIfInBounds_toArray, List.set_cons_zero, List.set_cons_succ]) (hCont (g8, g9) _ ⟨hHeld, blk_below hb8 hl9, hb9, (by rw [hg9]; exact Nat.ne_of_lt (blk_lt hb8)), (by rw [hg8]; exact Nat.le_refl _), (by rw [hg9]; exact hl8.size), below_step hl8 hl9⟩)
    · skip
      refine box_step (N := 9) ?hw rfl (cs := #[.int .i64 0, .int .i64 0, .int .i64 0, .int .i64 0]) (t := 40) ?hr ?_
      case hw => rfl
      case hr => first | (go_simp; done) | (go_simp; rfl)
      intro g9 hg9 u9 hb9 hl9
      refine hK.out _ _ ⟨(blk_cell (blk_below (show w2.drew.heap[b3]? = _ from B3.out) hl9) 0).trans rfl, (blk_cell (blk_below (show w2.drew.heap[b3]? = _ from B3.out) hl9) 1).trans rfl, (blk_cell (blk_below (show w2.drew.heap[b3]? = _ from B3.out) hl9) 2).trans rfl, (blk_cell (blk_below (show w2.drew.heap[b3]? = _ from B3.out) hl9) 3).trans rfl⟩ (fun hHeld => ?_)
      clear hK K
      refine norm_ (a' := ?_) ?_ ?_
      rotate_left
      · show Act.put _ (some 9) _ = _
        simp only [Act.put, List.setIfInBounds_toArray, List.set_cons_zero, List.set_cons_succ, i64_w, i32_w]
        rfl
      refine one_ (i := 2) (N := some 8) #[true, true, true, true, false, false] rfl rfl (by kernel_rfl) (by decide) (fun K hK => ?_)
      refine box_step (N := 8) ?hw rfl (cs := #[.int .i64 0, .int .i64 0, .int .i64 0, .int .i64 0]) (t := 40) ?hr ?_
      case hw => rfl
      case hr => first | (go_simp; done) | (go_simp; rfl)
      intro g8 hg8 u8 hb8 hl8
      refine hK.out _ _ ⟨(blk_cell (blk_below (blk_below (show w2.drew.heap[b3]? = _ from B3.out) hl9) hl8) 0).trans rfl, (blk_cell (blk_below (blk_below (show w2.drew.heap[b3]? = _ from B3.out) hl9) hl8) 1).trans rfl, (blk_cell (blk_below (blk_below (show w2.drew.heap[b3]? = _ from B3.out) hl9) hl8) 2).trans rfl, (blk_cell (blk_below (blk_below (show w2.drew.heap[b3]? = _ from B3.out) hl9) hl8) 3).trans rfl⟩ (fun hHeld => ?_)
      clear hK K
      refine norm_ (a' := ?_) ?_ ?_
      rotate_left
      · show Act.put _ (some 8) _ = _
        simp only [Act.put, List.setIfInBounds_toArray, List.set_cons_zero, List.set_cons_succ, i64_w, i32_w]
        rfl
      exact norm_ (by simp only [putAll, Act.put, List.setIfInBounds_toArray, List.set_cons_zero, List.set_cons_succ]) (hCont (g8, g9) _ ⟨hHeld, hb8, blk_below hb9 hl8, (by intro he_; exact absurd he_.symm (by rw [hg8]; exact Nat.ne_of_lt (blk_lt hb9))), (by rw [hg8]; exact hl9.size), (by rw [hg9]; exact Nat.le_refl _), below_step hl9 hl8⟩)
  rintro ⟨g8, g9⟩ u ⟨hHeld, q8, q9, q89, ge8, ge9, qB⟩
  have Q8 := Aside0.mk q8
  have Q9 := Aside0.mk q9
  have N89 := Aside0.mk q89
  have n0_ := Aside0.mk (below_step HB.out.drew qB)
  have N38 := Aside0.mk (show b3 ≠ g8 from Nat.ne_of_lt (Nat.lt_of_lt_of_le (blk_lt B3.out) ge8))
  have N39 := Aside0.mk (show b3 ≠ g9 from Nat.ne_of_lt (Nat.lt_of_lt_of_le (blk_lt B3.out) ge9))
  have N68 := Aside0.mk (show b6 ≠ g8 from Nat.ne_of_lt (Nat.lt_of_lt_of_le (blk_lt B6.out) ge8))
  have N69 := Aside0.mk (show b6 ≠ g9 from Nat.ne_of_lt (Nat.lt_of_lt_of_le (blk_lt B6.out) ge9))
  have N78 := Aside0.mk (show b7 ≠ g8 from Nat.ne_of_lt (Nat.lt_of_lt_of_le (blk_lt B7.out) ge8))
  have N79 := Aside0.mk (show b7 ≠ g9 from Nat.ne_of_lt (Nat.lt_of_lt_of_le (blk_lt B7.out) ge9))
  have G8 := Aside0.mk (Nat.le_trans HB.out.size ge8)
  have G9 := Aside0.mk (Nat.le_trans HB.out.size ge9)
  have n3_ := Aside0.mk (blk_below (show w2.drew.heap[b3]? = _ from B3.out) qB)
  have n6_ := Aside0.mk (blk_below (show w2.drew.heap[b6]? = _ from B6.out) qB)
  have n7_ := Aside0.mk (blk_below (show w2.drew.heap[b7]? = _ from B7.out) qB)
  clear HB B3 B6 B7 q8 q9 q89 ge8 ge9 qB
  have HB := n0_
  have B3 := n3_
  have B6 := n6_
  have B7 := n7_
  clear n0_ n3_ n6_ n7_
  have hz0 := (blk_cell Q8.out 0).trans (show _ = some (.int .i64 0) from rfl)
  have hz1 := (blk_cell Q8.out 1).trans (show _ = some (.int .i64 0) from rfl)
  have hz2 := (blk_cell Q8.out 2).trans (show _ = some (.int .i64 0) from rfl)
  have hz3 := (blk_cell Q8.out 3).trans (show _ = some (.int .i64 0) from rfl)
  have hf0 := blk_frozen Q8.out 0
  have hf1 := blk_frozen Q8.out 1
  have hf2 := blk_frozen Q8.out 2
  have hf3 := blk_frozen Q8.out 3
  refine norm_ (a' := ?_) ?_ ?_
  rotate_left
  · simp only [putAll, Act.put, List.setIfInBounds_toArray, List.set_cons_zero, List.set_cons_succ]
    rfl
  refine one_ (i := 4) (N := none) #[true, true, true, true, true, false] rfl rfl (by kernel_rfl) (by decide) (fun K hK => ?_)
  refine skip_ (w1 := ?_) (by rfl) rfl ?_ ?_
  rotate_left
  · go_simp
    rfl
  clear hz0 hz1 hz2 hz3 hf0 hf1 hf2 hf3
  have Q9b := Aside0.mk (blk_set4 Q9.out (Ne.symm N89.out) (.int .i64 x) (.int .i64 y) (.int .i64 z) (.int .i64 e))
  have B3b := Aside0.mk (blk_set4 B3.out N38.out (.int .i64 x) (.int .i64 y) (.int .i64 z) (.int .i64 e))
  have hy0 := (blk_cell Q9b.out 0).trans (show _ = some (.int .i64 0) from rfl)
  have hy1 := (blk_cell Q9b.out 1).trans (show _ = some (.int .i64 0) from rfl)
  have hy2 := (blk_cell Q9b.out 2).trans (show _ = some (.int .i64 0) from rfl)
  have hy3 := (blk_cell Q9b.out 3).trans (show _ = some (.int .i64 0) from rfl)
  have hq0 := blk_frozen Q9b.out 0
  have hq1 := blk_frozen Q9b.out 1
  have hq2 := blk_frozen Q9b.out 2
  have hq3 := blk_frozen Q9b.out 3
  refine hK.out _ _ ⟨(blk_cell B3b.out 0).trans rfl, (blk_cell B3b.out 1).trans rfl, (blk_cell B3b.out 2).trans rfl, (blk_cell B3b.out 3).trans rfl⟩ (fun hHeld => ?_)
  clear hK K
  refine last_ (i := 5) (N := none) #[true, true, true, true, true, true] rfl rfl (by kernel_rfl) (by decide) (fun K hK => ?_)
  refine skip_ (w1 := ?_) (by rfl) rfl ?_ ?_
  rotate_left
  · go_simp
    rfl
  refine hK.out _ _ ?_
  clear hK K
  refine done_ (by kernel_rfl) ?_
  clear hy0 hy1 hy2 hy3 hq0 hq1 hq2 hq3
  have n8_ := Aside0.mk (blk_set4 (blk_put4 Q8.out (.int .i64 x) (.int .i64 y) (.int .i64 z) (.int .i64 e)) N89.out (.int .i64 x) (.int .i64 y) (.int .i64 z) (.int .i64 e))
  have n9_ := Aside0.mk (blk_put4 Q9b.out (.int .i64 x) (.int .i64 y) (.int .i64 z) (.int .i64 e))
  have n3_ := Aside0.mk (blk_set4 B3b.out N39.out (.int .i64 x) (.int .i64 y) (.int .i64 z) (.int .i64 e))
  have n6_ := Aside0.mk (blk_set4 (blk_set4 B6.out N68.out (.int .i64 x) (.int .i64 y) (.int .i64 z) (.int .i64 e)) N69.out (.int .i64 x) (.int .i64 y) (.int .i64 z) (.int .i64 e))
  have n7_ := Aside0.mk (blk_set4 (blk_set4 B7.out N78.out (.int .i64 x) (.int .i64 y) (.int .i64 z) (.int .i64 e)) N79.out (.int .i64 x) (.int .i64 y) (.int .i64 z) (.int .i64 e))
  have n0_ := Aside0.mk (below_set4 (below_set4 HB.out G8.out (.int .i64 x) (.int .i64 y) (.int .i64 z) (.int .i64 e)) G9.out (.int .i64 x) (.int .i64 y) (.int .i64 z) (.int .i64 e))
  clear Q8 Q9 Q9b B3 B3b B6 B7 HB
  have Q8 := n8_
  have Q9 := n9_
  have B3 := n3_
  have B6 := n6_
  have B7 := n7_
  have HB := n0_
  clear n8_ n9_ n3_ n6_ n7_ n0_
  generalize ((((((((u.setCell ⟨g8, 0, none⟩ (.int .i64 x)).setCell ⟨g8, 1, none⟩ (.int .i64 y)).setCell ⟨g8, 2, none⟩ (.int .i64 z)).setCell ⟨g8, 3, none⟩ (.int .i64 e)).setCell ⟨g9, 0, none⟩ (.int .i64 x)).setCell ⟨g9, 1, none⟩ (.int .i64 y)).setCell ⟨g9, 2, none⟩ (.int .i64 z)).setCell ⟨g9, 3, none⟩ (.int .i64 e)) = u2 at Q8 Q9 B3 B6 B7 HB ⊢
  go_wp2
  have hz0 := (blk_cell Q8.out 0).trans (show _ = some (.int .i64 x) from rfl)
  have hz1 := (blk_cell Q8.out 1).trans (show _ = some (.int .i64 y) from rfl)
  have hz2 := (blk_cell Q8.out 2).trans (show _ = some (.int .i64 z) from rfl)
  have hz3 := (blk_cell Q8.out 3).trans (show _ = some (.int .i64 e) from rfl)
  have hf0 := blk_frozen Q8.out 0
  have hf1 := blk_frozen Q8.out 1
  have hf2 := blk_frozen Q8.out 2
  have hf3 := blk_frozen Q8.out 3
  have he3 : u2.cell? ⟨b3, 3, none⟩ = some (.int .i64 e) := (blk_cell B3.out 3).trans rfl
  have hw1 : IntKind.i64.wrap (f - 1) = f - 1 := by rw [i64_w]; unfold wrap64; omega
  have hw2 : IntKind.i64.wrap (e - 1) = e - 1 := by clear hw1; rw [i64_w]; unfold wrap64; omega
  refine start_ (n := 11) (S := fun w' => w'.cell? ⟨b3, 3, none⟩ = some (.int .i64 e)) (ds := [10]) #[false, false, false, false, false, false, false, false, false, false, false] (by kernel_rfl) rfl rfl (he3) (fun hHeld => ?_)
  refine pure_ (i := 0) (N := some 12) (v := ?_) (a' := ?_) #[true, false, false, false, false, false, false, false, false, false, false] rfl rfl (by kernel_rfl) (fun _ _ _ h => h) (Or.inl ⟨by rfl, ?_⟩) ?_ ?_
  rotate_left
  · intro w'
    go_simp
    with_reducible rfl
  rotate_left
  · simp only [Act.put, List.setIfInBounds_toArray, List.set_cons_zero, List.set_cons_succ, i64_w, i32_w]
    rfl
  refine pure_ (i := 1) (N := some 13) (v := ?_) (a' := ?_) #[true, true, false, false, false, false, false, false, false, false, false] rfl rfl (by kernel_rfl) (fun _ _ _ h => h) (Or.inl ⟨by rfl, ?_⟩) ?_ ?_
  rotate_left
  · intro w'
    go_simp
    with_reducible rfl
  rotate_left
  · simp only [Act.put, List.setIfInBounds_toArray, List.set_cons_zero, List.set_cons_succ, i64_w, i32_w]
    rfl
  refine pure_ (i := 2) (N := some 14) (v := ?_) (a' := ?_) #[true, true, true, false, false, false, false, false, false, false, false] rfl rfl (by kernel_rfl) (fun _ _ _ h => h) (Or.inl ⟨by rfl, ?_⟩) ?_ ?_
  rotate_left
  · intro w'
    go_simp
    with_reducible rfl
  rotate_left
  · simp only [Act.put, List.setIfInBounds_toArray, List.set_cons_zero, List.set_cons_succ, i64_w, i32_w]
    rfl
  refine pure_ (i := 3) (N := some 15) (v := ?_) (a' := ?_) #[true, true, true, true, false, false, false, false, false, false, false] rfl rfl (by kernel_rfl) (fun _ _ _ h => h) (Or.inl ⟨by rfl, ?_⟩) ?_ ?_
  rotate_left
  · intro w'
    go_simp
    with_reducible rfl
  rotate_left
  · simp only [Act.put, List.setIfInBounds_toArray, List.set_cons_zero, List.set_cons_succ, i64_w, i32_w]
    rfl
  refine pure_ (i := 6) (N := some 18) (v := ?_) (a' := ?_) #[true, true, true, true, false, false, true, false, false, false, false] rfl rfl (by kernel_rfl) (fun _ _ _ h => h) (Or.inl ⟨by rfl, ?_⟩) ?_ ?_
  rotate_left
  · intro w'
    go_simp
    with_reducible rfl
  rotate_left
  · simp only [Act.put, List.setIfInBounds_toArray, List.set_cons_zero, List.set_cons_succ, i64_w, i32_w]
    rfl
  refine pure_ (i := 7) (N := some 19) (v := ?_) (a' := ?_) #[true, true, true, true, false, false, true, true, false, false, false] rfl rfl (by kernel_rfl) (fun _ _ _ h => h) (Or.inl ⟨by rfl, ?_⟩) ?_ ?_
  rotate_left
  · intro w'
    go_simp
    with_reducible rfl
  rotate_left
  · simp only [Act.put, List.setIfInBounds_toArray, List.set_cons_zero, List.set_cons_succ, i64_w, i32_w]
    rfl
  refine take_ (i := 4) (N := some 16) (v := ?_) (a' := ?_) #[true, true, true, true, true, false, true, true, false, false, false] rfl rfl (by kernel_rfl) (fun _ _ _ h => h) (Or.inl ⟨by rfl, ?_⟩) hHeld ?_ ?_
  rotate_left
  · intro w' s0
    go_simp
    with_reducible rfl
  rotate_left
  · simp only [Act.put, List.setIfInBounds_toArray, List.set_cons_zero, List.set_cons_succ, i64_w, i32_w]
    rfl
  refine pure_ (i := 5) (N := some 17) (v := ?_) (a' := ?_) #[true, true, true, true, true, true, true, true, false, false, false] rfl rfl (by kernel_rfl) (fun _ _ _ h => h) (Or.inl ⟨by rfl, ?_⟩) ?_ ?_
  rotate_left
  · intro w'
    go_simp
    with_reducible rfl
  rotate_left
  · simp only [Act.put, List.setIfInBounds_toArray, List.set_cons_zero, List.set_cons_succ, i64_w, i32_w]
    rfl
  refine one_ (i := 8) (N := none) #[true, true, true, true, true, true, true, true, true, false, false] rfl rfl (by kernel_rfl) (by decide) (fun K hK => ?_)
  refine skip_ (w1 := ?_) (by rfl) rfl ?_ ?_
  rotate_left
  · go_simp
    rfl
  have Q8b := Aside0.mk (blk_put (cs' := #[.int .i64 x, .int .i64 y, .int .i64 (f - 1), .int .i64 e]) Q8.out 2 (.int .i64 (f - 1)) rfl)
  have B3b := Aside0.mk (blk_far B3.out (p := ⟨g8, 2, none⟩) N38.out (.int .i64 (f - 1)))
  refine hK.out _ _ ((blk_cell B3b.out 3).trans rfl) (fun hHeld => ?_)
  clear hK K
  refine pure_ (i := 9) (N := some 20) (v := ?_) (a' := ?_) #[true, true, true, true, true, true, true, true, true, true, false] rfl rfl (by kernel_rfl) (fun _ _ _ h => h) (Or.inl ⟨by rfl, ?_⟩) ?_ ?_
  rotate_left
  · intro w'
    go_simp
    with_reducible rfl
  rotate_left
  · simp only [Act.put, List.setIfInBounds_toArray, List.set_cons_zero, List.set_cons_succ, i64_w, i32_w]
    rfl
  refine last_ (i := 10) (N := none) #[true, true, true, true, true, true, true, true, true, true, true] rfl rfl (by kernel_rfl) (by decide) (fun K hK => ?_)
  refine skip_ (w1 := ?_) (by rfl) rfl ?_ ?_
  rotate_left
  · go_simp
    rfl
  refine hK.out _ _ ?_
  clear hK K
  refine done_ (by kernel_rfl) ?_
  clear hz0 hz1 hz2 hz3 hf0 hf1 hf2 hf3
  clear he3
  have n8_ := Aside0.mk (show ((u2.setCell ⟨g8, 2, none⟩ (.int .i64 (f - 1))).setCell ⟨g8, 3, none⟩ (.int .i64 (e - 1))).drew.heap[g8]? = _ from blk_put (cs' := #[.int .i64 x, .int .i64 y, .int .i64 (f - 1), .int .i64 (e - 1)]) Q8b.out 3 (.int .i64 (e - 1)) rfl)
  have N98 := Aside0.mk (Ne.symm N89.out)
  have n9_ := Aside0.mk (show ((u2.setCell ⟨g8, 2, none⟩ (.int .i64 (f - 1))).setCell ⟨g8, 3, none⟩ (.int .i64 (e - 1))).drew.heap[g9]? = _ from blk_far (blk_far Q9.out (p := ⟨g8, 2, none⟩) N98.out (.int .i64 (f - 1))) (p := ⟨g8, 3, none⟩) N98.out (.int .i64 (e - 1)))
  have n6_ := Aside0.mk (show ((u2.setCell ⟨g8, 2, none⟩ (.int .i64 (f - 1))).setCell ⟨g8, 3, none⟩ (.int .i64 (e - 1))).drew.heap[b6]? = _ from blk_far (blk_far B6.out (p := ⟨g8, 2, none⟩) N68.out (.int .i64 (f - 1))) (p := ⟨g8, 3, none⟩) N68.out (.int .i64 (e - 1)))
  have n7_ := Aside0.mk (show ((u2.setCell ⟨g8, 2, none⟩ (.int .i64 (f - 1))).setCell ⟨g8, 3, none⟩ (.int .i64 (e - 1))).drew.heap[b7]? = _ from blk_far (blk_far B7.out (p := ⟨g8, 2, none⟩) N78.out (.int .i64 (f - 1))) (p := ⟨g8, 3, none⟩) N78.out (.int .i64 (e - 1)))
  have n0_ := Aside0.mk (show Below w.heap.size w ((u2.setCell ⟨g8, 2, none⟩ (.int .i64 (f - 1))).setCell ⟨g8, 3, none⟩ (.int .i64 (e - 1))).drew from ((HB.out.setCell (p := ⟨g8, 2, none⟩) G8.out (.int .i64 (f - 1))).setCell (p := ⟨g8, 3, none⟩) G8.out (.int .i64 (e - 1))).drew)
  clear Q8 Q8b Q9 B3 B3b B6 B7 HB hw1 hw2
  have Q8 := n8_
  have Q9 := n9_
  have B6 := n6_
  have B7 := n7_
  have HB := n0_
  clear n8_ n9_ n6_ n7_ n0_
  generalize ((u2.setCell ⟨g8, 2, none⟩ (.int .i64 (f - 1))).setCell ⟨g8, 3, none⟩ (.int .i64 (e - 1))).drew = u3 at Q8 Q9 B6 B7 HB ⊢
  have hz0 := (blk_cell Q9.out 0).trans (show _ = some (.int .i64 x) from rfl)
  have hz1 := (blk_cell Q9.out 1).trans (show _ = some (.int .i64 y) from rfl)
  have hz2 := (blk_cell Q9.out 2).trans (show _ = some (.int .i64 z) from rfl)
  have hz3 := (blk_cell Q9.out 3).trans (show _ = some (.int .i64 e) from rfl)
  have hf0 := blk_frozen Q9.out 0
  have hf1 := blk_frozen Q9.out 1
  have hf2 := blk_frozen Q9.out 2
  have hf3 := blk_frozen Q9.out 3
  have hw3 : IntKind.i64.wrap (z - f) = z - f := by rw [i64_w]; unfold wrap64; omega
  go_wp2
  clear hz0 hz1 hz2 hz3 hf0 hf1 hf2 hf3
  have n9_ := Aside0.mk (blk_put (cs' := #[.int .i64 x, .int .i64 y, .int .i64 (z - f), .int .i64 e]) Q9.out 2 (.int .i64 (z - f)) rfl)
  have n8_ := Aside0.mk (blk_far Q8.out (p := ⟨g9, 2, none⟩) N89.out (.int .i64 (z - f)))
  have n6_ := Aside0.mk (blk_far B6.out (p := ⟨g9, 2, none⟩) N69.out (.int .i64 (z - f)))
  have n7_ := Aside0.mk (blk_far B7.out (p := ⟨g9, 2, none⟩) N79.out (.int .i64 (z - f)))
  have n0_ := Aside0.mk (HB.out.setCell (p := ⟨g9, 2, none⟩) G9.out (.int .i64 (z - f)))
  clear Q8 Q9 B6 B7 HB hw3
  have Q8 := n8_
  have Q9 := n9_
  have B6 := n6_
  have B7 := n7_
  have HB := n0_
  clear n8_ n9_ n6_ n7_ n0_
  generalize (u3.setCell ⟨g9, 2, none⟩ (.int .i64 (z - f))) = u4 at Q8 Q9 B6 B7 HB ⊢
  have hz0 := (blk_cell B6.out 0).trans (show _ = some (.int .i64 0) from rfl)
  have hz1 := (blk_cell B6.out 1).trans (show _ = some (.int .i64 0) from rfl)
  have hz2 := (blk_cell B6.out 2).trans (show _ = some (.int .i64 0) from rfl)
  have hz3 := (blk_cell B6.out 3).trans (show _ = some (.int .i64 0) from rfl)
  have hf0 := blk_frozen B6.out 0
  have hf1 := blk_frozen B6.out 1
  have hf2 := blk_frozen B6.out 2
  have hf3 := blk_frozen B6.out 3
  refine start_ (n := 4) (S := fun w' => w'.cell? ⟨g8, 0, none⟩ = some (.int .i64 x) ∧ w'.cell? ⟨g8, 1, none⟩ = some (.int .i64 y) ∧ w'.cell? ⟨g8, 2, none⟩ = some (.int .i64 (f - 1)) ∧ w'.cell? ⟨g8, 3, none⟩ = some (.int .i64 (e - 1)) ∧ w'.cell? ⟨g9, 0, none⟩ = some (.int .i64 x) ∧ w'.cell? ⟨g9, 1, none⟩ = some (.int .i64 y) ∧ w'.cell? ⟨g9, 2, none⟩ = some (.int .i64 (z - f)) ∧ w'.cell? ⟨g9, 3, none⟩ = some (.int .i64 e)) (ds := [3]) #[false, false, false, false] (by kernel_rfl) rfl rfl ⟨(blk_cell (show u4.drew.heap[g8]? = _ from Q8.out) 0).trans rfl, (blk_cell (show u4.drew.heap[g8]? = _ from Q8.out) 1).trans rfl, (blk_cell (show u4.drew.heap[g8]? = _ from Q8.out) 2).trans rfl, (blk_cell (show u4.drew.heap[g8]? = _ from Q8.out) 3).trans rfl, (blk_cell (show u4.drew.heap[g9]? = _ from Q9.out) 0).trans rfl, (blk_cell (show u4.drew.heap[g9]? = _ from Q9.out) 1).trans rfl, (blk_cell (show u4.drew.heap[g9]? = _ from Q9.out) 2).trans rfl, (blk_cell (show u4.drew.heap[g9]? = _ from Q9.out) 3).trans rfl⟩ (fun hHeld => ?_)
  refine take_ (i := 0) (N := some 29) (v := ?_) (a' := ?_) #[true, false, false, false] rfl rfl (by kernel_rfl) (fun _ _ _ h => h) (Or.inl ⟨by rfl, ?_⟩) hHeld ?_ ?_
  rotate_left
  · rintro w' ⟨s0, s1, s2, s3, s4, s5, s6, s7⟩
    go_simp
    with_reducible rfl
  rotate_left
  · simp only [Act.put, List.setIfInBounds_toArray, List.set_cons_zero, List.set_cons_succ, i64_w, i32_w]
    rfl
  refine take_ (i := 1) (N := some 30) (v := ?_) (a' := ?_) #[true, true, false, false] rfl rfl (by kernel_rfl) (fun _ _ _ h => h) (Or.inl ⟨by rfl, ?_⟩) hHeld ?_ ?_
  rotate_left
  · rintro w' ⟨s0, s1, s2, s3, s4, s5, s6, s7⟩
    go_simp
    with_reducible rfl
  rotate_left
  · simp only [Act.put, List.setIfInBounds_toArray, List.set_cons_zero, List.set_cons_succ, i64_w, i32_w]
    rfl
  refine one_ (i := 2) (N := none) #[true, true, true, false] rfl rfl (by kernel_rfl) (by decide) (fun K hK => ?_)
  refine skip_ (w1 := ?_) (by rfl) rfl ?_ ?_
  rotate_left
  · go_simp
    rfl
  clear hz0 hz1 hz2 hz3 hf0 hf1 hf2 hf3
  have Q8b := Aside0.mk (show ((((u4.setCell ⟨b6, 0, none⟩ (.int .i64 x)).setCell ⟨b6, 1, none⟩ (.int .i64 y)).setCell ⟨b6, 2, none⟩ (.int .i64 (f - 1))).setCell ⟨b6, 3, none⟩ (.int .i64 (e - 1))).drew.heap[g8]? = _ from blk_set4 Q8.out (Ne.symm N68.out) (.int .i64 x) (.int .i64 y) (.int .i64 (f - 1)) (.int .i64 (e - 1)))
  have Q9b := Aside0.mk (show ((((u4.setCell ⟨b6, 0, none⟩ (.int .i64 x)).setCell ⟨b6, 1, none⟩ (.int .i64 y)).setCell ⟨b6, 2, none⟩ (.int .i64 (f - 1))).setCell ⟨b6, 3, none⟩ (.int .i64 (e - 1))).drew.heap[g9]? = _ from blk_set4 Q9.out (Ne.symm N69.out) (.int .i64 x) (.int .i64 y) (.int .i64 (f - 1)) (.int .i64 (e - 1)))
  have B7b := Aside0.mk (blk_set4 B7.out (Ne.symm Nb6b7.out) (.int .i64 x) (.int .i64 y) (.int .i64 (f - 1)) (.int .i64 (e - 1)))
  have hy0 := (blk_cell B7b.out 0).trans (show _ = some (.int .i64 0) from rfl)
  have hy1 := (blk_cell B7b.out 1).trans (show _ = some (.int .i64 0) from rfl)
  have hy2 := (blk_cell B7b.out 2).trans (show _ = some (.int .i64 0) from rfl)
  have hy3 := (blk_cell B7b.out 3).trans (show _ = some (.int .i64 0) from rfl)
  have hq0 := blk_frozen B7b.out 0
  have hq1 := blk_frozen B7b.out 1
  have hq2 := blk_frozen B7b.out 2
  have hq3 := blk_frozen B7b.out 3
  refine hK.out _ _ ⟨(blk_cell Q8b.out 0).trans rfl, (blk_cell Q8b.out 1).trans rfl, (blk_cell Q8b.out 2).trans rfl, (blk_cell Q8b.out 3).trans rfl, (blk_cell Q9b.out 0).trans rfl, (blk_cell Q9b.out 1).trans rfl, (blk_cell Q9b.out 2).trans rfl, (blk_cell Q9b.out 3).trans rfl⟩ (fun hHeld => ?_)
  clear hK K
  refine last_ (i := 3) (N := none) #[true, true, true, true] rfl rfl (by kernel_rfl) (by decide) (fun K hK => ?_)
  refine skip_ (w1 := ?_) (by rfl) rfl ?_ ?_
  rotate_left
  · go_simp
    rfl
  refine hK.out _ _ ?_
  clear hK K
  refine done_ (by kernel_rfl) ?_
  clear hy0 hy1 hy2 hy3 hq0 hq1 hq2 hq3
  have m6_ := blk_set4 (blk_put4 B6.out (.int .i64 x) (.int .i64 y) (.int .i64 (f - 1)) (.int .i64 (e - 1))) Nb6b7.out (.int .i64 x) (.int .i64 y) (.int .i64 (z - f)) (.int .i64 e)
  have m7_ := blk_put4 B7b.out (.int .i64 x) (.int .i64 y) (.int .i64 (z - f)) (.int .i64 e)
  have m0_ := below_set4 (below_set4 HB.out Gb6.out (.int .i64 x) (.int .i64 y) (.int .i64 (f - 1)) (.int .i64 (e - 1))) Gb7.out (.int .i64 x) (.int .i64 y) (.int .i64 (z - f)) (.int .i64 e)
  have n6_ := Aside0.mk (blk_drew m6_)
  have n7_ := Aside0.mk (blk_drew m7_)
  have n0_ := Aside0.mk m0_.drew
  clear m6_ m7_ m0_
  go_wp2
  refine bodyPost_ret (results_cc rfl _ _ b6 b7 40 40 #[.int .i64 x, .int .i64 y, .int .i64 (f - 1), .int .i64 (e - 1)] #[.int .i64 x, .int .i64 y, .int .i64 (z - f), .int .i64 e] (0, 0) (0, 0) _ _ rfl n6_.out Try.underlying40 rfl (by kernel_rfl) rfl n7_.out Try.underlying40 rfl (by kernel_rfl)) rfl ?_
  exact ⟨rfl, n0_.out⟩
def hVA (e : Int) (l : List Int) : Value := .agg #[.int .i64 (l.getD 0 0), .int .i64 (l.getD 1 0), .int .i64 (l.getD 2 0), .int .i64 e]
theorem parts_is (e x y z f : Int) (hx : 0 ≤ x ∧ x ≤ 8) (hy : 0 ≤ y ∧ y ≤ 8) (hz : 0 ≤ z ∧ z ≤ 8) (he : 0 ≤ e ∧ e ≤ 10) (hf : 0 ≤ f ∧ f ≤ 10) (i : Nat) (hi : i < 3) (w : World) :
    Calls Try.prog 44 #[.agg #[.int .i64 x, .int .i64 y, .int .i64 z, .int .i64 e], .int .i64 i, .int .i64 f] w fun e_ w' => e_ = .returned (.tuple #[hVA (e - 1) (hBr [x, y, z] (i, f)), hVA e (hWh [x, y, z] (i, f))]) ∧ Below w.heap.size w w' := by
  rcases (by omega : i = 0 ∨ i = 1 ∨ i = 2) with rfl | rfl | rfl
  · exact parts0 e x y z f hx hy hz he hf w
  · exact parts1 e x y z f hx hy hz he hf w
  · exact parts2 e x y z f hx hy hz he hf w

end Go.Proofs.Ytoldjcmokcgaiaa.PrintA
