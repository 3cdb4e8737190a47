-- written by this session's own driver (wip/gen.py) with the kit's print and contracts of our own
import Derived.Test.YtaniojfokildiaaGreatDoorPrintA0
import Derived.Test.YtaniojfokildiaaGreatDoorPrintA3
import Derived.Test.YtaniojfokildiaaGreatDoorPrintA4
namespace Go.Proofs.YtaniojfokildiaaGreatDoor.PrintA
open Go.RowKit Go.Proofs.YtaniojfokildiaaGreatDoorLib Go.Proofs.YtaniojfokildiaaGreatDoorW.PrintWords Go.Proofs.YtaniojfokildiaaGreatDoorW.PrintLast Go.Proofs.YtaniojfokildiaaGreatDoorW.PrintMore
attribute [local go_sem] max2_int min2_int max_two min_two max_three min_three max_four min_four   -- for this text's walks alone
set_option linter.unusedVariables false
set_option linter.unusedSimpArgs false

/-! ### spec_l1Cur_marks: function 61, a contract of our own -/
def upB (b : Nat → Bool) (i : Nat) : Nat → Bool := fun j => if j = i then true else b j
def upV (x : Nat → Value) (i : Nat) (v : Value) : Nat → Value := fun j => if j = i then v else x j
def mkL (b : Nat → Bool) : Array Bool := #[true, b 1, b 2, b 3, b 4, b 5, b 6, b 7, b 8, true, b 10, b 11, b 12, b 13, false]
def mkDeps : Nat → List Nat
  | 2 => [1]
  | 8 => [3, 4, 5, 6, 7]
  | 10 => [2]
  | 11 => [8, 10]
  | 12 => [11]
  | 13 => [1, 2, 10]
  | _ => []
def mkIdx : List Nat := [1, 2, 3, 4, 5, 6, 7, 8, 10, 11, 12, 13]
def mkRdy (b : Nat → Bool) : List Nat := mkIdx.filter (fun i => !b i && (mkDeps i).all b) ++ (if mkIdx.all b then [14] else [])
def mkCnt (b : Nat → Bool) : Nat := (!b 1).toNat + (!b 2).toNat + (!b 3).toNat + (!b 4).toNat + (!b 5).toNat + (!b 6).toNat + (!b 7).toNat + (!b 8).toNat + (!b 10).toNat + (!b 11).toNat + (!b 12).toNat + (!b 13).toNat
def bOf (c1 c2 c3 c4 c5 c6 c7 c8 c10 c11 c12 c13 : Bool) : Nat → Bool
  | 1 => c1
  | 2 => c2
  | 3 => c3
  | 4 => c4
  | 5 => c5
  | 6 => c6
  | 7 => c7
  | 8 => c8
  | 10 => c10
  | 11 => c11
  | 12 => c12
  | 13 => c13
  | _ => false
theorem mkIdx_mem (i : Nat) : i ∈ mkIdx ↔ i = 1 ∨ i = 2 ∨ i = 3 ∨ i = 4 ∨ i = 5 ∨ i = 6 ∨ i = 7 ∨ i = 8 ∨ i = 10 ∨ i = 11 ∨ i = 12 ∨ i = 13 := by simp [mkIdx]
theorem mkL_up (b : Nat → Bool) (i : Nat) (hi : i ∈ mkIdx) : (mkL b).setIfInBounds i true = mkL (upB b i) := by
  rcases (mkIdx_mem i).1 hi with rfl | rfl | rfl | rfl | rfl | rfl | rfl | rfl | rfl | rfl | rfl | rfl <;> rfl
theorem mkCnt_up (b : Nat → Bool) (i : Nat) (hi : i ∈ mkIdx) (hb : b i = false) : mkCnt b = mkCnt (upB b i) + 1 := by
  rcases (mkIdx_mem i).1 hi with rfl | rfl | rfl | rfl | rfl | rfl | rfl | rfl | rfl | rfl | rfl | rfl <;> (unfold mkCnt upB; simp [hb]; try omega)
theorem mkCnt_zero (b : Nat → Bool) (h : mkCnt b = 0) : ∀ i ∈ mkIdx, b i = true := by
  intro i hi
  cases hb : b i with
  | true => rfl
  | false => have := mkCnt_up b i hi hb; omega
theorem mkRdy_not (b : Nat → Bool) (n : Nat) (h : mkCnt b = n + 1) (hd : ∀ i ∈ mkIdx, b i = false → ∃ j ∈ mkIdx, b j = false ∧ (mkDeps j).all b = true) : mkRdy b ≠ [] ∧ ∀ i ∈ mkRdy b, i ∈ mkIdx ∧ b i = false ∧ ∀ j ∈ mkDeps i, b j = true := by
  have hne : mkIdx.all b = false := by
    cases ha : mkIdx.all b with
    | false => rfl
    | true =>
      rw [List.all_eq_true] at ha
      have hz : mkCnt b = 0 := by
        unfold mkCnt
        rw [ha 1 (by simp [mkIdx]), ha 2 (by simp [mkIdx]), ha 3 (by simp [mkIdx]), ha 4 (by simp [mkIdx]), ha 5 (by simp [mkIdx]), ha 6 (by simp [mkIdx]), ha 7 (by simp [mkIdx]), ha 8 (by simp [mkIdx]), ha 10 (by simp [mkIdx]), ha 11 (by simp [mkIdx]), ha 12 (by simp [mkIdx]), ha 13 (by simp [mkIdx])]; rfl
      omega
  have e : mkRdy b = mkIdx.filter (fun i => !b i && (mkDeps i).all b) := by
    unfold mkRdy
    rw [hne]; simp
  rw [e]
  constructor
  · intro hnil
    have hex : ∃ i ∈ mkIdx, b i = false := by
      rw [List.all_eq_false] at hne
      obtain ⟨i, hi, hb⟩ := hne
      exact ⟨i, hi, by simpa using hb⟩
    obtain ⟨i, hi, hb⟩ := hex
    obtain ⟨j, hj, hbj, hall⟩ := hd i hi hb
    have : j ∈ mkIdx.filter (fun i => !b i && (mkDeps i).all b) := List.mem_filter.2 ⟨hj, by rw [hbj, hall]; rfl⟩
    rw [hnil] at this
    exact absurd this (by simp)
  · intro i hi
    obtain ⟨h1, h2⟩ := List.mem_filter.1 hi
    simp only [Bool.and_eq_true, Bool.not_eq_true', List.all_eq_true] at h2
    exact ⟨h1, h2.1, h2.2⟩
/-- What is undone has something ready: none waits in a ring. -/
theorem mk_deep (b : Nat → Bool) : ∀ i ∈ mkIdx, b i = false → ∃ j ∈ mkIdx, b j = false ∧ (mkDeps j).all b = true := by
  have base : ∀ i ∈ mkIdx, mkDeps i = [] → b i = false → ∃ j ∈ mkIdx, b j = false ∧ (mkDeps j).all b = true := fun i hi hd hb => ⟨i, hi, hb, by rw [hd]; rfl⟩
  have h1 := base 1 (by simp [mkIdx]) rfl
  have h3 := base 3 (by simp [mkIdx]) rfl
  have h4 := base 4 (by simp [mkIdx]) rfl
  have h5 := base 5 (by simp [mkIdx]) rfl
  have h6 := base 6 (by simp [mkIdx]) rfl
  have h7 := base 7 (by simp [mkIdx]) rfl
  have h2 : b 2 = false → ∃ j ∈ mkIdx, b j = false ∧ (mkDeps j).all b = true := fun hb => by
    cases hc : b 1 with
    | false => exact h1 hc
    | true => exact ⟨2, by simp [mkIdx], hb, by simp [mkDeps, hc]⟩
  have h10 : b 10 = false → ∃ j ∈ mkIdx, b j = false ∧ (mkDeps j).all b = true := fun hb => by
    cases hc : b 2 with
    | false => exact h2 hc
    | true => exact ⟨10, by simp [mkIdx], hb, by simp [mkDeps, hc]⟩
  have h8 : b 8 = false → ∃ j ∈ mkIdx, b j = false ∧ (mkDeps j).all b = true := fun hb => by
    cases c3 : b 3 with
    | false => exact h3 c3
    | true => cases c4 : b 4 with
      | false => exact h4 c4
      | true => cases c5 : b 5 with
        | false => exact h5 c5
        | true => cases c6 : b 6 with
          | false => exact h6 c6
          | true => cases c7 : b 7 with
            | false => exact h7 c7
            | true => exact ⟨8, by simp [mkIdx], hb, by simp [mkDeps, c3, c4, c5, c6, c7]⟩
  have h11 : b 11 = false → ∃ j ∈ mkIdx, b j = false ∧ (mkDeps j).all b = true := fun hb => by
    cases c8 : b 8 with
    | false => exact h8 c8
    | true => cases c10 : b 10 with
      | false => exact h10 c10
      | true => exact ⟨11, by simp [mkIdx], hb, by simp [mkDeps, c8, c10]⟩
  intro i hi hb
  rcases (mkIdx_mem i).1 hi with rfl | rfl | rfl | rfl | rfl | rfl | rfl | rfl | rfl | rfl | rfl | rfl
  · exact h1 hb
  · exact h2 hb
  · exact h3 hb
  · exact h4 hb
  · exact h5 hb
  · exact h6 hb
  · exact h7 hb
  · exact h8 hb
  · exact h10 hb
  · exact h11 hb
  · cases c11 : b 11 with
    | false => exact h11 c11
    | true => exact ⟨12, by simp [mkIdx], hb, by simp [mkDeps, c11]⟩
  · cases c1 : b 1 with
    | false => exact h1 c1
    | true => cases c2 : b 2 with
      | false => exact h2 c2
      | true => cases c10 : b 10 with
        | false => exact h10 c10
        | true => exact ⟨13, by simp [mkIdx], hb, by simp [mkDeps, c1, c2, c10]⟩
theorem wpOp_of {P : Program} {ops : Array Oper} {Q : Exit → Act → World → Prop} {i : Nat} {o : Oper} {K : Act → World → Prop} {a : Act} {w : World} (hi : ops[i]? = some o) (h : if Region.wanted o (yielded ops a.tmps) = true then Oper.wp P o a w K Q else K (a.put o.dst undef) w) : wpOp P ops Q i K a w := by
  unfold wpOp
  rw [hi]
  dsimp only
  by_cases hw : Region.wanted o (yielded ops a.tmps) = true
  · rw [if_pos hw] at h ⊢
    exact Or.inl h
  · rw [if_neg hw] at h ⊢
    exact h
theorem any_gen {P : Program} {ops : Array Oper} {Q : Exit → Act → World → Prop} (act : (Nat → Value) → Act) (Inv : (Nat → Bool) → (Nat → Value) → World → Prop)
    (hready : ∀ b x w, Inv b x w → Region.ready .any ops (mkL b) = mkRdy b)
    (hstep : ∀ b x w i, i ∈ mkIdx → b i = false → (∀ j ∈ mkDeps i, b j = true) → Inv b x w → ∀ K : Act → World → Prop, (∀ v w', Inv (upB b i) (upV x i v) w' → K (act (upV x i v)) w') → ∃ o, ops[i]? = some o ∧ (if Region.wanted o (yielded ops (act x).tmps) = true then Oper.wp P o (act x) w K Q else K ((act x).put o.dst undef) w))
    (hend : ∀ b x w, (∀ i ∈ mkIdx, b i = true) → Inv b x w → wpAnyLast P .any ops Q (fun _ => True) [] 1 (mkL b) (act x) w) :
    ∀ (n : Nat) (b : Nat → Bool) (x : Nat → Value) (w : World), mkCnt b = n → Inv b x w → wpAnyLast P .any ops Q (fun _ => True) [] (n + 1) (mkL b) (act x) w
  | 0, b, x, w, hn, hI => hend b x w (mkCnt_zero b hn) hI
  | n + 1, b, x, w, hn, hI => by
    obtain ⟨h1, h2⟩ := mkRdy_not b n hn (mk_deep b)
    refine wpAnyLast_all (fuel := n + 1) (hready b x w hI) h1 (fun i hi => ?_)
    obtain ⟨h3, h4, h5⟩ := h2 i hi
    obtain ⟨o, ho, h⟩ := hstep b x w i h3 h4 h5 hI (fun a' w' => (i ∉ ([] : List Nat) → True → True) ∧ wpAnyLast P .any ops Q (fun _ => True) [] (n + 1) ((mkL b).setIfInBounds i true) a' w') (fun v w' hI' => ⟨fun _ _ => trivial, by
      rw [mkL_up b i h3]
      exact any_gen act Inv hready hstep hend n (upB b i) (upV x i v) w' (by have := mkCnt_up b i h3 h4; omega) hI'⟩)
    exact wpOp_of ho h
theorem among_in (l : List Int) (hl : ∀ x ∈ l, 0 ≤ x ∧ x ≤ 255) (i s : Int) (h0 : 0 ≤ i) (h1 : i ≤ 3900000000000000000) (q : List Int) (hq : 0 < q.length) : ∃ x i' s', spec_l1Cur_among.f l i s q = some (x, i', s') ∧ x ∈ q ∧ i ≤ i' ∧ i' ≤ i + 2 := by
  obtain ⟨x, i', s', e, h5, h6, h7, h3, h4⟩ := pick_ok l hl i s (q.length : Int) h0 h1
  have hx : x < (q.length : Int) := by
    by_cases h : (q.length : Int) ≤ 1
    · have := h6 h; omega
    · exact h7 (by omega)
  refine ⟨rd q x, i', s', ?_, ?_, h3, h4⟩
  · unfold spec_l1Cur_among.f
    rw [e, Option.bind_some]
    dsimp only
    rw [if_pos h5, if_pos hx]
  · have hlt : x.toNat < q.length := by omega
    have : rd q x = q[x.toNat] := by simp [rd, List.getD_eq_getElem?_getD, hlt]
    rw [this]
    exact List.getElem_mem hlt
/-- A literal's row. -/
def LitAt (w : World) (g : Nat) (v : Value) (n : Nat) (cs : Array Value) : Prop := ∃ blk, v = .slice (some ⟨blk, 0, none⟩) n n ∧ blk ≠ g ∧ w.heap[blk]? = some (.cells cs 3 (0, 0))
theorem LitAt.move {w w' : World} {g n : Nat} {v : Value} {cs : Array Value} (h : LitAt w g v n cs) (hk : KeepBut w w' g none) : LitAt w' g v n cs := by
  obtain ⟨blk, h1, h2, h3⟩ := h
  have hlt : blk < w.heap.size := by
    rcases Nat.lt_or_ge blk w.heap.size with h | h
    · exact h
    · rw [Array.getElem?_eq_none h] at h3; exact absurd h3 (by simp)
  exact ⟨blk, h1, h2, (hk.2 blk hlt h2 (by simp)).trans h3⟩
structure MkInv (w0 : World) (g : Nat) (l : List Int) (i0 s0 i1 s1 i2 s2 f k : Int) (b : Nat → Bool) (x : Nat → Value) (w : World) : Prop where
  cur : IsS72 w0 w g l (if b 10 = true then i2 else if b 2 = true then i1 else i0) (if b 10 = true then s2 else if b 2 = true then s1 else s0)
  bel : Below w0.heap.size w0 w
  ord : b 10 = true → b 2 = true
  ord2 : b 2 = true → b 1 = true
  l1 : b 1 = true → LitAt w g (x 1) 4 #[.int .i64 (-1), .int .i64 0, .int .i64 100, .int .i64 101]
  l3 : b 3 = true → LitAt w g (x 3) 1 #[.int .i64 1]
  l4 : b 4 = true → LitAt w g (x 4) 1 #[.int .i64 0]
  l5 : b 5 = true → LitAt w g (x 5) 2 #[.int .i64 2, .int .i64 2]
  l6 : b 6 = true → LitAt w g (x 6) 2 #[.int .i64 3, .int .i64 1]
  l7 : b 7 = true → LitAt w g (x 7) 1 #[.int .i64 101]
  l8 : b 8 = true → (b 3 = true ∧ b 4 = true ∧ b 5 = true ∧ b 6 = true ∧ b 7 = true) ∧ ∃ blk, x 8 = .slice (some ⟨blk, 0, none⟩) 6 6 ∧ blk ≠ g ∧ w.heap[blk]? = some (.cells #[.slice none 0 0, x 3, x 4, x 5, x 6, x 7] 24 (0, 0))
  v2 : b 2 = true → x 2 = .int .i64 f
  v10 : b 10 = true → x 10 = .int .i64 k
  v13 : b 13 = true → b 10 = true ∧ x 13 = .int .i64 f
  v11 : b 11 = true → (b 8 = true ∧ b 10 = true) ∧ ∀ blk, x 8 = .slice (some ⟨blk, 0, none⟩) 6 6 → x 11 = .pointer (some ⟨blk, k.toNat, none⟩)
  v12 : b 12 = true → b 11 = true ∧ (#[.slice none 0 0, x 3, x 4, x 5, x 6, x 7] : Array Value)[k.toNat]? = some (x 12)
theorem MkInv.world {w0 w w' : World} {g : Nat} {l : List Int} {i0 s0 i1 s1 i2 s2 f k : Int} {b : Nat → Bool} {x : Nat → Value} (h : MkInv w0 g l i0 s0 i1 s1 i2 s2 f k b x w) (hk : KeepBut w w' g none)
    (hc : IsS72 w0 w' g l (if b 10 = true then i2 else if b 2 = true then i1 else i0) (if b 10 = true then s2 else if b 2 = true then s1 else s0)) (hb : Below w0.heap.size w0 w') : MkInv w0 g l i0 s0 i1 s1 i2 s2 f k b x w' where
  cur := hc
  bel := hb
  ord := h.ord
  ord2 := h.ord2
  l1 := fun q => (h.l1 q).move hk
  l3 := fun q => (h.l3 q).move hk
  l4 := fun q => (h.l4 q).move hk
  l5 := fun q => (h.l5 q).move hk
  l6 := fun q => (h.l6 q).move hk
  l7 := fun q => (h.l7 q).move hk
  l8 := fun q => by
    obtain ⟨h1, blk, h2, h3, h4⟩ := h.l8 q
    have hlt : blk < w.heap.size := by
      rcases Nat.lt_or_ge blk w.heap.size with h | h
      · exact h
      · rw [Array.getElem?_eq_none h] at h4; exact absurd h4 (by simp)
    exact ⟨h1, blk, h2, h3, (hk.2 blk hlt h3 (by simp)).trans h4⟩
  v2 := h.v2
  v10 := h.v10
  v13 := h.v13
  v11 := h.v11
  v12 := h.v12
theorem MkInv.alloc {w0 w : World} {g : Nat} {l : List Int} {i0 s0 i1 s1 i2 s2 f k : Int} {b : Nat → Bool} {x : Nat → Value} (h : MkInv w0 g l i0 s0 i1 s1 i2 s2 f k b x w) (o : Obj) : MkInv w0 g l i0 s0 i1 s1 i2 s2 f k b x (w.alloc o) ∧ g < w.heap.size ∧ (w.alloc o).heap[w.heap.size]? = some o := by
  have hb : Below w.heap.size w (w.alloc o) := below_alloc (Below.refl w.heap.size w) o
  refine ⟨h.world (KeepBut.of_below hb g none) (h.cur.below hb) (below_step h.bel hb), ?_, ?_⟩
  · have hf := h.cur.fresh
    rcases Nat.lt_or_ge g w.heap.size with hq | hq
    · exact hq
    · exact absurd rfl (hf g hq)
  · show (w.heap.push o)[w.heap.size]? = some o
    rw [Array.getElem?_push_size]
theorem MkInv.set1 {w0 w : World} {g : Nat} {l : List Int} {i0 s0 i1 s1 i2 s2 f k : Int} {b : Nat → Bool} {x : Nat → Value} {v : Value} (h : MkInv w0 g l i0 s0 i1 s1 i2 s2 f k b x w) (hn : b 1 = false) (hv : LitAt w g v 4 #[.int .i64 (-1), .int .i64 0, .int .i64 100, .int .i64 101]) : MkInv w0 g l i0 s0 i1 s1 i2 s2 f k (upB b 1) (upV x 1 v) w where
  cur := by simpa [upB] using h.cur
  bel := h.bel
  ord := by simpa [upB] using h.ord
  ord2 := by simp [upB]
  l1 := fun _ => by simpa [upV] using hv
  l3 := by simpa [upB, upV] using h.l3
  l4 := by simpa [upB, upV] using h.l4
  l5 := by simpa [upB, upV] using h.l5
  l6 := by simpa [upB, upV] using h.l6
  l7 := by simpa [upB, upV] using h.l7
  l8 := by simpa [upB, upV] using h.l8
  v2 := by simpa [upB, upV] using h.v2
  v10 := by simpa [upB, upV] using h.v10
  v13 := by simpa [upB, upV] using h.v13
  v11 := by simpa [upB, upV] using h.v11
  v12 := by simpa [upB, upV] using h.v12
theorem MkInv.set3 {w0 w : World} {g : Nat} {l : List Int} {i0 s0 i1 s1 i2 s2 f k : Int} {b : Nat → Bool} {x : Nat → Value} {v : Value} (h : MkInv w0 g l i0 s0 i1 s1 i2 s2 f k b x w) (hn : b 3 = false) (hv : LitAt w g v 1 #[.int .i64 1]) : MkInv w0 g l i0 s0 i1 s1 i2 s2 f k (upB b 3) (upV x 3 v) w where
  cur := by simpa [upB] using h.cur
  bel := h.bel
  ord := by simpa [upB] using h.ord
  ord2 := by simpa [upB] using h.ord2
  l1 := by simpa [upB, upV] using h.l1
  l3 := fun _ => by simpa [upV] using hv
  l4 := by simpa [upB, upV] using h.l4
  l5 := by simpa [upB, upV] using h.l5
  l6 := by simpa [upB, upV] using h.l6
  l7 := by simpa [upB, upV] using h.l7
  l8 := fun q => by
    have := (h.l8 (by simpa [upB] using q)).1
    rw [hn] at this
    simp at this
  v2 := by simpa [upB, upV] using h.v2
  v10 := by simpa [upB, upV] using h.v10
  v13 := by simpa [upB, upV] using h.v13
  v11 := fun q => absurd (h.l8 (h.v11 (by simpa [upB] using q)).1.1).1.1 (by rw [hn]; simp)
  v12 := fun q => absurd (h.l8 (h.v11 (h.v12 (by simpa [upB] using q)).1).1.1).1.1 (by rw [hn]; simp)
theorem MkInv.set4 {w0 w : World} {g : Nat} {l : List Int} {i0 s0 i1 s1 i2 s2 f k : Int} {b : Nat → Bool} {x : Nat → Value} {v : Value} (h : MkInv w0 g l i0 s0 i1 s1 i2 s2 f k b x w) (hn : b 4 = false) (hv : LitAt w g v 1 #[.int .i64 0]) : MkInv w0 g l i0 s0 i1 s1 i2 s2 f k (upB b 4) (upV x 4 v) w where
  cur := by simpa [upB] using h.cur
  bel := h.bel
  ord := by simpa [upB] using h.ord
  ord2 := by simpa [upB] using h.ord2
  l1 := by simpa [upB, upV] using h.l1
  l3 := by simpa [upB, upV] using h.l3
  l4 := fun _ => by simpa [upV] using hv
  l5 := by simpa [upB, upV] using h.l5
  l6 := by simpa [upB, upV] using h.l6
  l7 := by simpa [upB, upV] using h.l7
  l8 := fun q => by
    have := (h.l8 (by simpa [upB] using q)).1
    rw [hn] at this
    simp at this
  v2 := by simpa [upB, upV] using h.v2
  v10 := by simpa [upB, upV] using h.v10
  v13 := by simpa [upB, upV] using h.v13
  v11 := fun q => absurd (h.l8 (h.v11 (by simpa [upB] using q)).1.1).1.2.1 (by rw [hn]; simp)
  v12 := fun q => absurd (h.l8 (h.v11 (h.v12 (by simpa [upB] using q)).1).1.1).1.2.1 (by rw [hn]; simp)
theorem MkInv.set5 {w0 w : World} {g : Nat} {l : List Int} {i0 s0 i1 s1 i2 s2 f k : Int} {b : Nat → Bool} {x : Nat → Value} {v : Value} (h : MkInv w0 g l i0 s0 i1 s1 i2 s2 f k b x w) (hn : b 5 = false) (hv : LitAt w g v 2 #[.int .i64 2, .int .i64 2]) : MkInv w0 g l i0 s0 i1 s1 i2 s2 f k (upB b 5) (upV x 5 v) w where
  cur := by simpa [upB] using h.cur
  bel := h.bel
  ord := by simpa [upB] using h.ord
  ord2 := by simpa [upB] using h.ord2
  l1 := by simpa [upB, upV] using h.l1
  l3 := by simpa [upB, upV] using h.l3
  l4 := by simpa [upB, upV] using h.l4
  l5 := fun _ => by simpa [upV] using hv
  l6 := by simpa [upB, upV] using h.l6
  l7 := by simpa [upB, upV] using h.l7
  l8 := fun q => by
    have := (h.l8 (by simpa [upB] using q)).1
    rw [hn] at this
    simp at this
  v2 := by simpa [upB, upV] using h.v2
  v10 := by simpa [upB, upV] using h.v10
  v13 := by simpa [upB, upV] using h.v13
  v11 := fun q => absurd (h.l8 (h.v11 (by simpa [upB] using q)).1.1).1.2.2.1 (by rw [hn]; simp)
  v12 := fun q => absurd (h.l8 (h.v11 (h.v12 (by simpa [upB] using q)).1).1.1).1.2.2.1 (by rw [hn]; simp)
theorem MkInv.set6 {w0 w : World} {g : Nat} {l : List Int} {i0 s0 i1 s1 i2 s2 f k : Int} {b : Nat → Bool} {x : Nat → Value} {v : Value} (h : MkInv w0 g l i0 s0 i1 s1 i2 s2 f k b x w) (hn : b 6 = false) (hv : LitAt w g v 2 #[.int .i64 3, .int .i64 1]) : MkInv w0 g l i0 s0 i1 s1 i2 s2 f k (upB b 6) (upV x 6 v) w where
  cur := by simpa [upB] using h.cur
  bel := h.bel
  ord := by simpa [upB] using h.ord
  ord2 := by simpa [upB] using h.ord2
  l1 := by simpa [upB, upV] using h.l1
  l3 := by simpa [upB, upV] using h.l3
  l4 := by simpa [upB, upV] using h.l4
  l5 := by simpa [upB, upV] using h.l5
  l6 := fun _ => by simpa [upV] using hv
  l7 := by simpa [upB, upV] using h.l7
  l8 := fun q => by
    have := (h.l8 (by simpa [upB] using q)).1
    rw [hn] at this
    simp at this
  v2 := by simpa [upB, upV] using h.v2
  v10 := by simpa [upB, upV] using h.v10
  v13 := by simpa [upB, upV] using h.v13
  v11 := fun q => absurd (h.l8 (h.v11 (by simpa [upB] using q)).1.1).1.2.2.2.1 (by rw [hn]; simp)
  v12 := fun q => absurd (h.l8 (h.v11 (h.v12 (by simpa [upB] using q)).1).1.1).1.2.2.2.1 (by rw [hn]; simp)
theorem MkInv.set7 {w0 w : World} {g : Nat} {l : List Int} {i0 s0 i1 s1 i2 s2 f k : Int} {b : Nat → Bool} {x : Nat → Value} {v : Value} (h : MkInv w0 g l i0 s0 i1 s1 i2 s2 f k b x w) (hn : b 7 = false) (hv : LitAt w g v 1 #[.int .i64 101]) : MkInv w0 g l i0 s0 i1 s1 i2 s2 f k (upB b 7) (upV x 7 v) w where
  cur := by simpa [upB] using h.cur
  bel := h.bel
  ord := by simpa [upB] using h.ord
  ord2 := by simpa [upB] using h.ord2
  l1 := by simpa [upB, upV] using h.l1
  l3 := by simpa [upB, upV] using h.l3
  l4 := by simpa [upB, upV] using h.l4
  l5 := by simpa [upB, upV] using h.l5
  l6 := by simpa [upB, upV] using h.l6
  l7 := fun _ => by simpa [upV] using hv
  l8 := fun q => by
    have := (h.l8 (by simpa [upB] using q)).1
    rw [hn] at this
    simp at this
  v2 := by simpa [upB, upV] using h.v2
  v10 := by simpa [upB, upV] using h.v10
  v13 := by simpa [upB, upV] using h.v13
  v11 := fun q => absurd (h.l8 (h.v11 (by simpa [upB] using q)).1.1).1.2.2.2.2 (by rw [hn]; simp)
  v12 := fun q => absurd (h.l8 (h.v11 (h.v12 (by simpa [upB] using q)).1).1.1).1.2.2.2.2 (by rw [hn]; simp)
theorem MkInv.set8 {w0 w : World} {g : Nat} {l : List Int} {i0 s0 i1 s1 i2 s2 f k : Int} {b : Nat → Bool} {x : Nat → Value} {v : Value} (h : MkInv w0 g l i0 s0 i1 s1 i2 s2 f k b x w) (hn : b 8 = false) (hd : b 3 = true ∧ b 4 = true ∧ b 5 = true ∧ b 6 = true ∧ b 7 = true) (hv : ∃ blk, v = .slice (some ⟨blk, 0, none⟩) 6 6 ∧ blk ≠ g ∧ w.heap[blk]? = some (.cells #[.slice none 0 0, x 3, x 4, x 5, x 6, x 7] 24 (0, 0))) : MkInv w0 g l i0 s0 i1 s1 i2 s2 f k (upB b 8) (upV x 8 v) w where
  cur := by simpa [upB] using h.cur
  bel := h.bel
  ord := by simpa [upB] using h.ord
  ord2 := by simpa [upB] using h.ord2
  l1 := by simpa [upB, upV] using h.l1
  l3 := by simpa [upB, upV] using h.l3
  l4 := by simpa [upB, upV] using h.l4
  l5 := by simpa [upB, upV] using h.l5
  l6 := by simpa [upB, upV] using h.l6
  l7 := by simpa [upB, upV] using h.l7
  l8 := fun _ => by simpa [upB, upV] using ⟨hd, hv⟩
  v2 := by simpa [upB, upV] using h.v2
  v10 := by simpa [upB, upV] using h.v10
  v13 := by simpa [upB, upV] using h.v13
  v11 := fun q => absurd (h.v11 (by simpa [upB] using q)).1.1 (by rw [hn]; simp)
  v12 := fun q => absurd (h.v11 (h.v12 (by simpa [upB] using q)).1).1.1 (by rw [hn]; simp)
theorem MkInv.set2 {w0 w w' : World} {g : Nat} {l : List Int} {i0 s0 i1 s1 i2 s2 f k : Int} {b : Nat → Bool} {x : Nat → Value} (h : MkInv w0 g l i0 s0 i1 s1 i2 s2 f k b x w) (hn : b 2 = false) (h1 : b 1 = true) (hk : KeepBut w w' g none) (hc : IsS72 w0 w' g l i1 s1) (hb : Below w0.heap.size w0 w') : MkInv w0 g l i0 s0 i1 s1 i2 s2 f k (upB b 2) (upV x 2 (.int .i64 f)) w' := by
  have h10 : b 10 = false := by
    cases hq : b 10 with
    | false => rfl
    | true => have := h.ord hq; rw [hn] at this; exact absurd this (by simp)
  exact {
    cur := by simpa [upB, h10] using hc
    bel := hb
    ord := by simp [upB]
    ord2 := fun _ => by simpa [upB] using h1
    l1 := fun q => by simpa [upV] using (h.l1 (by simpa [upB] using q)).move hk
    l3 := fun q => by simpa [upV] using (h.l3 (by simpa [upB] using q)).move hk
    l4 := fun q => by simpa [upV] using (h.l4 (by simpa [upB] using q)).move hk
    l5 := fun q => by simpa [upV] using (h.l5 (by simpa [upB] using q)).move hk
    l6 := fun q => by simpa [upV] using (h.l6 (by simpa [upB] using q)).move hk
    l7 := fun q => by simpa [upV] using (h.l7 (by simpa [upB] using q)).move hk
    l8 := fun q => by
      obtain ⟨h1, blk, h2, h3, h4⟩ := h.l8 (by simpa [upB] using q)
      have hlt : blk < w.heap.size := by
        rcases Nat.lt_or_ge blk w.heap.size with h | h
        · exact h
        · rw [Array.getElem?_eq_none h] at h4; exact absurd h4 (by simp)
      have h5 := (hk.2 blk hlt h3 (by simp)).trans h4
      simpa [upB, upV] using ⟨h1, blk, h2, h3, h5⟩
    v2 := by simp [upV]
    v10 := by simpa [upB, upV] using h.v10
    v13 := by simpa [upB, upV] using h.v13
    v11 := by simpa [upB, upV] using h.v11
    v12 := by simpa [upB, upV] using h.v12
  }
theorem MkInv.set10 {w0 w w' : World} {g : Nat} {l : List Int} {i0 s0 i1 s1 i2 s2 f k : Int} {b : Nat → Bool} {x : Nat → Value} (h : MkInv w0 g l i0 s0 i1 s1 i2 s2 f k b x w) (hn : b 10 = false) (h2 : b 2 = true) (hk : KeepBut w w' g none) (hc : IsS72 w0 w' g l i2 s2) (hb : Below w0.heap.size w0 w') : MkInv w0 g l i0 s0 i1 s1 i2 s2 f k (upB b 10) (upV x 10 (.int .i64 k)) w' := by
  exact {
    cur := by simpa [upB] using hc
    bel := hb
    ord := fun _ => by simpa [upB] using h2
    ord2 := by simpa [upB] using h.ord2
    l1 := fun q => by simpa [upV] using (h.l1 (by simpa [upB] using q)).move hk
    l3 := fun q => by simpa [upV] using (h.l3 (by simpa [upB] using q)).move hk
    l4 := fun q => by simpa [upV] using (h.l4 (by simpa [upB] using q)).move hk
    l5 := fun q => by simpa [upV] using (h.l5 (by simpa [upB] using q)).move hk
    l6 := fun q => by simpa [upV] using (h.l6 (by simpa [upB] using q)).move hk
    l7 := fun q => by simpa [upV] using (h.l7 (by simpa [upB] using q)).move hk
    l8 := fun q => by
      obtain ⟨h1, blk, h2, h3, h4⟩ := h.l8 (by simpa [upB] using q)
      have hlt : blk < w.heap.size := by
        rcases Nat.lt_or_ge blk w.heap.size with h | h
        · exact h
        · rw [Array.getElem?_eq_none h] at h4; exact absurd h4 (by simp)
      have h5 := (hk.2 blk hlt h3 (by simp)).trans h4
      simpa [upB, upV] using ⟨h1, blk, h2, h3, h5⟩
    v2 := by simpa [upB, upV] using h.v2
    v10 := by simp [upV]
    v13 := fun q => by
      have := (h.v13 (by simpa [upB] using q)).1
      rw [hn] at this
      exact absurd this (by simp)
    v11 := fun q => absurd (h.v11 (by simpa [upB] using q)).1.2 (by rw [hn]; simp)
    v12 := fun q => absurd (h.v11 (h.v12 (by simpa [upB] using q)).1).1.2 (by rw [hn]; simp)
  }
theorem MkInv.set13 {w0 w : World} {g : Nat} {l : List Int} {i0 s0 i1 s1 i2 s2 f k : Int} {b : Nat → Bool} {x : Nat → Value} {v : Value} (h : MkInv w0 g l i0 s0 i1 s1 i2 s2 f k b x w) (hn : b 13 = false) (hd : b 10 = true) (hv : v = .int .i64 f) : MkInv w0 g l i0 s0 i1 s1 i2 s2 f k (upB b 13) (upV x 13 v) w where
  cur := by simpa [upB] using h.cur
  bel := h.bel
  ord := by simpa [upB] using h.ord
  ord2 := by simpa [upB] using h.ord2
  l1 := by simpa [upB, upV] using h.l1
  l3 := by simpa [upB, upV] using h.l3
  l4 := by simpa [upB, upV] using h.l4
  l5 := by simpa [upB, upV] using h.l5
  l6 := by simpa [upB, upV] using h.l6
  l7 := by simpa [upB, upV] using h.l7
  l8 := by simpa [upB, upV] using h.l8
  v2 := by simpa [upB, upV] using h.v2
  v10 := by simpa [upB, upV] using h.v10
  v13 := fun _ => by simpa [upB, upV] using ⟨hd, hv⟩
  v11 := by simpa [upB, upV] using h.v11
  v12 := by simpa [upB, upV] using h.v12
theorem MkInv.set11 {w0 w : World} {g : Nat} {l : List Int} {i0 s0 i1 s1 i2 s2 f k : Int} {b : Nat → Bool} {x : Nat → Value} {v : Value} (h : MkInv w0 g l i0 s0 i1 s1 i2 s2 f k b x w) (hn : b 11 = false) (hd : b 8 = true ∧ b 10 = true) (hv : ∀ blk, x 8 = .slice (some ⟨blk, 0, none⟩) 6 6 → v = .pointer (some ⟨blk, k.toNat, none⟩)) : MkInv w0 g l i0 s0 i1 s1 i2 s2 f k (upB b 11) (upV x 11 v) w where
  cur := by simpa [upB] using h.cur
  bel := h.bel
  ord := by simpa [upB] using h.ord
  ord2 := by simpa [upB] using h.ord2
  l1 := by simpa [upB, upV] using h.l1
  l3 := by simpa [upB, upV] using h.l3
  l4 := by simpa [upB, upV] using h.l4
  l5 := by simpa [upB, upV] using h.l5
  l6 := by simpa [upB, upV] using h.l6
  l7 := by simpa [upB, upV] using h.l7
  l8 := by simpa [upB, upV] using h.l8
  v2 := by simpa [upB, upV] using h.v2
  v10 := by simpa [upB, upV] using h.v10
  v13 := by simpa [upB, upV] using h.v13
  v11 := fun _ => ⟨by simpa [upB] using hd, fun blk hx => by simpa [upV] using hv blk (by simpa [upV] using hx)⟩
  v12 := fun q => absurd (h.v12 (by simpa [upB] using q)).1 (by rw [hn]; simp)
theorem MkInv.set12 {w0 w : World} {g : Nat} {l : List Int} {i0 s0 i1 s1 i2 s2 f k : Int} {b : Nat → Bool} {x : Nat → Value} {v : Value} (h : MkInv w0 g l i0 s0 i1 s1 i2 s2 f k b x w) (hn : b 12 = false) (hd : b 11 = true) (hv : (#[.slice none 0 0, x 3, x 4, x 5, x 6, x 7] : Array Value)[k.toNat]? = some v) : MkInv w0 g l i0 s0 i1 s1 i2 s2 f k (upB b 12) (upV x 12 v) w where
  cur := by simpa [upB] using h.cur
  bel := h.bel
  ord := by simpa [upB] using h.ord
  ord2 := by simpa [upB] using h.ord2
  l1 := by simpa [upB, upV] using h.l1
  l3 := by simpa [upB, upV] using h.l3
  l4 := by simpa [upB, upV] using h.l4
  l5 := by simpa [upB, upV] using h.l5
  l6 := by simpa [upB, upV] using h.l6
  l7 := by simpa [upB, upV] using h.l7
  l8 := by simpa [upB, upV] using h.l8
  v2 := by simpa [upB, upV] using h.v2
  v10 := by simpa [upB, upV] using h.v10
  v13 := by simpa [upB, upV] using h.v13
  v11 := by simpa [upB, upV] using h.v11
  v12 := fun _ => ⟨by simpa [upB] using hd, by simpa [upV] using hv⟩
def allB (p : Bool → Bool) : Bool := p true && p false
theorem allB_all {p : Bool → Bool} (h : allB p = true) : ∀ c, p c = true := by
  unfold allB at h
  simp only [Bool.and_eq_true] at h
  intro c
  cases c
  · exact h.2
  · exact h.1
def mkShut (b : Nat → Bool) : Bool := (!b 2 || b 1) && ((!b 8 || (b 3 && b 4 && b 5 && b 6 && b 7)) && ((!b 10 || b 2) && ((!b 11 || (b 8 && b 10)) && ((!b 12 || b 11) && (!b 13 || b 10)))))
theorem ready_of {ops : Array Oper} (H : (allB fun c1 => allB fun c2 => allB fun c3 => allB fun c4 => allB fun c5 => allB fun c6 => allB fun c7 => allB fun c8 => allB fun c10 => allB fun c11 => allB fun c12 => allB fun c13 => !mkShut (bOf c1 c2 c3 c4 c5 c6 c7 c8 c10 c11 c12 c13) || (Region.ready .any ops (mkL (bOf c1 c2 c3 c4 c5 c6 c7 c8 c10 c11 c12 c13)) == mkRdy (bOf c1 c2 c3 c4 c5 c6 c7 c8 c10 c11 c12 c13))) = true) (b : Nat → Bool) (hs : mkShut b = true) : Region.ready .any ops (mkL b) = mkRdy b := by
  have h := (allB_all (allB_all (allB_all (allB_all (allB_all (allB_all (allB_all (allB_all (allB_all (allB_all (allB_all (allB_all H (b 1)) (b 2)) (b 3)) (b 4)) (b 5)) (b 6)) (b 7)) (b 8)) (b 10)) (b 11)) (b 12)) (b 13))
  have hs' : mkShut (bOf (b 1) (b 2) (b 3) (b 4) (b 5) (b 6) (b 7) (b 8) (b 10) (b 11) (b 12) (b 13)) = true := hs
  rw [hs', Bool.not_true, Bool.false_or, beq_iff_eq] at h
  exact h
theorem lit_C {w : World} {blk e : Nat} (l : List Int) (hl : l.length ≤ 1000) (cs : Array Value) (hcs : cs = (l.map fun z => Value.int .i64 z).toArray) (h : w.heap[blk]? = some (.cells cs e (0, 0))) : Kd.C (Kd.int .i64) w (some ⟨blk, 0, none⟩) l.length l := by
  refine Kd.C_of_reads (d := (0 : Int)) (h1 := fun _ => rfl) ⟨rfl, by omega, fun _ => ⟨⟨blk, 0, none⟩, rfl, fun j hj => ?_⟩⟩
  have ea : (⟨blk, 0, none⟩ : Addr).add j = ⟨blk, j, none⟩ := by
    unfold Addr.add
    split
    · rename_i h_; subst h_; rfl
    · simp
  rw [ea]
  unfold World.cell?
  rw [h, hcs]
  simp [List.getD_eq_getElem?_getD, hj]
theorem MkInv.shut {w0 w : World} {g : Nat} {l : List Int} {i0 s0 i1 s1 i2 s2 f k : Int} {b : Nat → Bool} {x : Nat → Value} (h : MkInv w0 g l i0 s0 i1 s1 i2 s2 f k b x w) : mkShut b = true := by
  have e : ∀ {p q : Bool}, (p = true → q = true) → (!p || q) = true := fun {p q} h => by
    cases p
    · rfl
    · rw [h rfl]; rfl
  unfold mkShut
  rw [e h.ord2, e h.ord, e (fun q => (h.v12 q).1), e (fun q => (h.v13 q).1), e (p := b 8) (q := b 3 && b 4 && b 5 && b 6 && b 7) (fun q => by obtain ⟨a1, a2, a3, a4, a5⟩ := (h.l8 q).1; rw [a1, a2, a3, a4, a5]; rfl), e (p := b 11) (q := b 8 && b 10) (fun q => by obtain ⟨a1, a2⟩ := (h.v11 q).1; rw [a1, a2]; rfl)]
  rfl
def MarksPost (w0 : World) (g : Nat) (l : List Int) (i : Int) (e : Ending) (w' : World) : Prop := ∃ (f : Int) (m : List Int) (A : Option Addr) (c : Nat) (i' s' : Int), e = .returned (.tuple #[.int .i64 f, .slice A m.length c]) ∧ m.length ≤ c ∧ m.length ≤ 110 ∧ (-1 ≤ f ∧ f ≤ 200) ∧ Kd.C (Kd.int .i64) w' A m.length m ∧ IsS72 w0 w' g l i' s' ∧ Below w0.heap.size w0 w' ∧ i ≤ i' ∧ i' ≤ i + 1000 ∧ (∀ ad, A = some ad → 0 < m.length → ad.block ≠ g)
set_option maxHeartbeats 8000000 in
set_option maxRecDepth 100000 in
theorem marks_calls (l : List Int) (hl : ∀ x ∈ l, 0 ≤ x ∧ x ≤ 255) (g : Nat) (i s : Int) (h0 : 0 ≤ i) (h1 : i ≤ 3600000000000000000) (w0 w : World) (hI : IsS72 w0 w g l i s) (hB : Below w0.heap.size w0 w) :
    Calls Tryz.prog 61 #[.pointer (some ⟨g, 0, none⟩)] w fun e w' => MarksPost w0 g l i e w' := by
  obtain ⟨x1, i1, s1, e1, p1, p2, p3, p4, p5⟩ := pick_ok l hl i s 16 h0 (by omega)
  obtain ⟨x2, i2, s2, e2, r1, r2, r3, r4, r5⟩ := pick_ok l hl i1 s1 12 (by omega) (by omega)
  have hx1 := p3 (by omega)
  have hx2 := r3 (by omega)
  clear p2 p3 r2 r3
  have HI := Aside0.mk hI
  have HB := Aside0.mk hB
  have E1 := Aside0.mk e1
  have E2 := Aside0.mk e2
  clear hI hB e1 e2
  have HL := Aside0.mk hl
  clear hl
  have HR : Aside0 ((0 ≤ x1 ∧ x1 < 16) ∧ (0 ≤ i1 ∧ i ≤ i1 ∧ i1 ≤ i + 2) ∧ (i ≤ i2 ∧ i2 ≤ i + 4) ∧ 0 ≤ i ∧ i ≤ 3600000000000000000) := ⟨by omega⟩
  rcases (by omega : x2 = 0 ∨ x2 = 1 ∨ x2 = 2 ∨ x2 = 3 ∨ 4 ≤ x2) with hc | hc | hc | hc | hc
  · subst hc
    clear p1 p4 p5 r1 r4 r5 hx1 hx2 h0 h1
    go_enter Tryz.func61, Tryz.ntmps61
    go_wp2_with fail
    refine (spec_l1Cur_pick.calls g l i s 16 x1 i1 s1 w0 _ HI.out HB.out E1.out).mono ?_
    rintro e w1_ ⟨rfl, hI, hb, hk⟩
    clear HI HB hk
    have HI := Aside0.mk hI
    have HB := Aside0.mk hb
    clear hI hb
    go_wp2_with fail
    refine (spec_l1Cur_pick.calls g l i1 s1 12 0 i2 s2 w0 _ HI.out HB.out E2.out).mono ?_
    rintro e w2_ ⟨rfl, hI, hb, hk⟩
    clear HI HB hk
    have HI := Aside0.mk hI
    have HB := Aside0.mk hb
    clear hI hb
    obtain ⟨f, i3, s3, e3, hf, hi3a, hi3b⟩ := among_in l HL.out i2 s2 (by have := HR.out; omega) (by have := HR.out; omega) [-1, 0, 100, 101] (by decide)
    obtain ⟨k, i4, s4, e4, hk0, _, hk6, hi4a, hi4b⟩ := pick_ok l HL.out i3 s3 6 (by have := HR.out; omega) (by have := HR.out; omega)
    have hk6 := hk6 (by omega)
    have E3 := Aside0.mk e3
    have E4 := Aside0.mk e4
    have HF : Aside0 (-1 ≤ f ∧ f ≤ 200) := ⟨by simp at hf; omega⟩
    have HI4 : Aside0 (i ≤ i4 ∧ i4 ≤ i + 1000) := ⟨by have := HR.out; omega⟩
    clear e3 e4 hf hi3a hi3b hi4a hi4b
    go_wp2_with fail
    refine start_ (n := 15) (S := fun w' => True) (ds := []) #[false, false, false, false, false, false, false, false, false, false, false, false, false, false, false] (by kernel_rfl) rfl rfl trivial (fun _ => ?_)
    refine pure_ (i := 0) (N := some 13) (v := ?_) (a' := ?_) #[true, false, false, false, false, false, false, false, false, false, false, false, false, false, false] rfl rfl (by kernel_rfl) (fun _ _ _ h => h) (Or.inl ⟨by rfl, ?_⟩) ?_ ?_
    rotate_left
    · intro w'
      go_simp
      with_reducible rfl
    rotate_left
    · simp only [Act.put, List.setIfInBounds_toArray, List.set_cons_zero, List.set_cons_succ]
      rfl
    refine pure_ (i := 9) (N := some 22) (v := ?_) (a' := ?_) #[true, false, false, false, false, false, false, false, false, true, false, false, false, false, false] rfl rfl (by kernel_rfl) (fun _ _ _ h => h) (Or.inl ⟨by rfl, ?_⟩) ?_ ?_
    rotate_left
    · intro w'
      go_simp
      with_reducible rfl
    rotate_left
    · simp only [Act.put, List.setIfInBounds_toArray, List.set_cons_zero, List.set_cons_succ]
      rfl
    have hk : k = 0 ∨ k = 1 ∨ k = 2 ∨ k = 3 ∨ k = 4 ∨ k = 5 := by omega
    clear hk0 hk6
    refine any_gen (fun x => ⟨#[.pointer (some ⟨g, 0, none⟩), undef, x 13, .slice none 0 0, .int .i64 x1, undef, undef, .pointer (some ⟨g, 0, none⟩), .int .i64 x1, .pointer (some ⟨g, 0, none⟩), .int .i64 0, .bool true, .bool true, .pointer (some ⟨g, 0, none⟩), x 1, x 2, x 3, x 4, x 5, x 6, x 7, x 8, .pointer (some ⟨g, 0, none⟩), x 10, x 11, x 12, undef, undef, undef, undef, undef, undef, undef, undef, undef, undef, undef, undef, undef, undef, undef, undef, undef, undef, undef, undef, undef, undef, undef, undef, undef, undef], []⟩) (MkInv w0 g l i2 s2 i3 s3 i4 s4 f k) ?hready ?hstep ?hend 12 (fun _ => false) (fun j => if j = 13 then .int .i64 0 else undef) _ rfl ?hinv
    case hinv => exact { cur := by simpa using (show IsS72 w0 w2_.drew g l i2 s2 from HI.out), bel := HB.out.drew, ord := by simp, ord2 := by simp, l1 := by simp, l3 := by simp, l4 := by simp, l5 := by simp, l6 := by simp, l7 := by simp, l8 := by simp, v2 := by simp, v10 := by simp, v13 := by simp, v11 := by simp, v12 := by simp }
    case hready =>
      intro b x w hv
      exact ready_of (by kernel_rfl) b hv.shut
    case hstep =>
      intro b x w i hi hb hd hv K hK
      rcases (mkIdx_mem i).1 hi with rfl | rfl | rfl | rfl | rfl | rfl | rfl | rfl | rfl | rfl | rfl | rfl
      · -- 1
        refine ⟨_, rfl, ?_⟩
        refine value_ (w1 := ?_) (v := ?_) (by rfl) rfl ?_ ?_
        rotate_left 2
        · go_simp
          constructor
          · rfl
          · rfl
        have ha := hv.alloc (.cells #[.int .i64 (-1), .int .i64 0, .int .i64 100, .int .i64 101] 3 (0, 0))
        exact hK _ _ (ha.1.set1 hb ⟨_, rfl, by omega, ha.2.2⟩)
      · -- 2
        obtain ⟨blk, hx, hne, hcell⟩ := hv.l1 (hd 1 (by simp [mkDeps]))
        have hc := lit_C [-1, 0, 100, 101] (by decide) _ rfl hcell
        have h10 : b 10 = false := by
          cases hq : b 10 with
          | false => rfl
          | true => have := hv.ord hq; rw [hb] at this; exact absurd this (by simp)
        have hcur := hv.cur
        rw [hb, h10] at hcur
        refine ⟨_, rfl, ?_⟩
        refine goes_ Tryz.func86 (by kernel_rfl) rfl #[.pointer (some ⟨g, 0, none⟩), .slice (some ⟨blk, 0, none⟩) 4 4] (by rfl) rfl rfl (by simp only [List.map_toArray, List.map_cons, List.map_nil]; rw [← hx]; rfl) ?_
        refine (spec_l1Cur_among.calls g l i2 s2 (some ⟨blk, 0, none⟩) 4 [-1, 0, 100, 101] f i3 s3 w0 w hcur hv.bel hc (by decide) (fun ad ha _ => by obtain rfl := Option.some.inj ha; exact hne) E3.out).mono ?_
        rintro e w' ⟨rfl, hI', hb', hk'⟩
        exact ⟨_, rfl, hK _ _ (hv.set2 hb (hd 1 (by simp [mkDeps])) hk' hI' hb')⟩
      · -- 3
        refine ⟨_, rfl, ?_⟩
        refine value_ (w1 := ?_) (v := ?_) (by rfl) rfl ?_ ?_
        rotate_left 2
        · go_simp
          constructor
          · rfl
          · rfl
        have ha := hv.alloc (.cells #[.int .i64 1] 3 (0, 0))
        exact hK _ _ (ha.1.set3 hb ⟨_, rfl, by omega, ha.2.2⟩)
      · -- 4
        refine ⟨_, rfl, ?_⟩
        refine value_ (w1 := ?_) (v := ?_) (by rfl) rfl ?_ ?_
        rotate_left 2
        · go_simp
          constructor
          · rfl
          · rfl
        have ha := hv.alloc (.cells #[.int .i64 0] 3 (0, 0))
        exact hK _ _ (ha.1.set4 hb ⟨_, rfl, by omega, ha.2.2⟩)
      · -- 5
        refine ⟨_, rfl, ?_⟩
        refine value_ (w1 := ?_) (v := ?_) (by rfl) rfl ?_ ?_
        rotate_left 2
        · go_simp
          constructor
          · rfl
          · rfl
        have ha := hv.alloc (.cells #[.int .i64 2, .int .i64 2] 3 (0, 0))
        exact hK _ _ (ha.1.set5 hb ⟨_, rfl, by omega, ha.2.2⟩)
      · -- 6
        refine ⟨_, rfl, ?_⟩
        refine value_ (w1 := ?_) (v := ?_) (by rfl) rfl ?_ ?_
        rotate_left 2
        · go_simp
          constructor
          · rfl
          · rfl
        have ha := hv.alloc (.cells #[.int .i64 3, .int .i64 1] 3 (0, 0))
        exact hK _ _ (ha.1.set6 hb ⟨_, rfl, by omega, ha.2.2⟩)
      · -- 7
        refine ⟨_, rfl, ?_⟩
        refine value_ (w1 := ?_) (v := ?_) (by rfl) rfl ?_ ?_
        rotate_left 2
        · go_simp
          constructor
          · rfl
          · rfl
        have ha := hv.alloc (.cells #[.int .i64 101] 3 (0, 0))
        exact hK _ _ (ha.1.set7 hb ⟨_, rfl, by omega, ha.2.2⟩)
      · -- 8
        have d3 := hd 3 (by simp [mkDeps])
        have d4 := hd 4 (by simp [mkDeps])
        have d5 := hd 5 (by simp [mkDeps])
        have d6 := hd 6 (by simp [mkDeps])
        have d7 := hd 7 (by simp [mkDeps])
        obtain ⟨k3, hx3, _⟩ := hv.l3 d3
        obtain ⟨k4, hx4, _⟩ := hv.l4 d4
        obtain ⟨k5, hx5, _⟩ := hv.l5 d5
        obtain ⟨k6, hx6, _⟩ := hv.l6 d6
        obtain ⟨k7, hx7, _⟩ := hv.l7 d7
        refine ⟨_, rfl, ?_⟩
        refine value_ (w1 := ?_) (v := ?_) (by rfl) rfl ?_ ?_
        rotate_left 2
        · simp only [hx3, hx4, hx5, hx6, hx7]
          go_simp
          constructor
          · rfl
          · rfl
        have ha := hv.alloc (.cells #[.slice none 0 0, .slice (some ⟨k3, 0, none⟩) 1 1, .slice (some ⟨k4, 0, none⟩) 1 1, .slice (some ⟨k5, 0, none⟩) 2 2, .slice (some ⟨k6, 0, none⟩) 2 2, .slice (some ⟨k7, 0, none⟩) 1 1] 24 (0, 0))
        refine hK _ _ (ha.1.set8 hb ⟨d3, d4, d5, d6, d7⟩ ⟨_, rfl, by omega, ?_⟩)
        rw [hx3, hx4, hx5, hx6, hx7]
        exact ha.2.2
      · -- 10
        have d2 := hd 2 (by simp [mkDeps])
        have hcur := hv.cur
        rw [hb, d2] at hcur
        refine ⟨_, rfl, ?_⟩
        refine goes_ Tryz.func62 (by kernel_rfl) rfl #[.pointer (some ⟨g, 0, none⟩), .int .i64 6] (by rfl) rfl rfl (by simp only [List.map_toArray, List.map_cons, List.map_nil]; rfl) ?_
        refine (spec_l1Cur_pick.calls g l i3 s3 6 k i4 s4 w0 w hcur hv.bel E4.out).mono ?_
        rintro e w' ⟨rfl, hI', hb', hk'⟩
        exact ⟨_, rfl, hK _ _ (hv.set10 hb d2 hk' hI' hb')⟩
      · -- 11
        have d8 := hd 8 (by simp [mkDeps])
        have d10 := hd 10 (by simp [mkDeps])
        obtain ⟨_, blk, hx8, _, _⟩ := hv.l8 d8
        have hx10 := hv.v10 d10
        refine ⟨_, rfl, ?_⟩
        refine value_ (w1 := w) (v := .pointer (some ⟨blk, k.toNat, none⟩)) (by rfl) rfl ?_ ?_
        · simp only [hx8, hx10]
          rcases hk with rfl | rfl | rfl | rfl | rfl | rfl <;> go_simp
        exact hK _ _ (hv.set11 hb ⟨d8, d10⟩ (fun blk' hx' => by rw [hx8] at hx'; injection hx' with hx'; injection hx' with hx'; injection hx' with hx'; rw [hx']))
      · -- 12
        have d11 := hd 11 (by simp [mkDeps])
        obtain ⟨⟨d8, d10⟩, hx11⟩ := hv.v11 d11
        obtain ⟨_, blk, hx8, _, hc8⟩ := hv.l8 d8
        have hx11 := hx11 blk hx8
        obtain ⟨z, hz⟩ : ∃ z, (#[.slice none 0 0, x 3, x 4, x 5, x 6, x 7] : Array Value)[k.toNat]? = some z := by
          rcases hk with rfl | rfl | rfl | rfl | rfl | rfl <;> exact ⟨_, rfl⟩
        have hcell : w.cell? (⟨blk, k.toNat, none⟩ : Addr) = some z := by
          unfold World.cell?
          rw [hc8]
          exact hz
        refine ⟨_, rfl, ?_⟩
        refine value_ (w1 := w) (v := z) (by rfl) rfl ?_ ?_
        · simp only [hx11]
          go_simp
          first | done | (rw [hcell]; done) | (rw [hcell]; rfl)
        exact hK _ _ (hv.set12 hb d11 hz)
      · -- 13
        have d2 := hd 2 (by simp [mkDeps])
        have d10 := hd 10 (by simp [mkDeps])
        have hx2 := hv.v2 d2
        refine ⟨_, rfl, ?_⟩
        refine value_ (w1 := w) (v := x 2) (by rfl) rfl (by go_simp) ?_
        exact hK _ _ (hv.set13 hb d10 hx2)
    case hend =>
      intro b x w hb hv
      have b8 := hb 8 (by simp [mkIdx])
      have b10 := hb 10 (by simp [mkIdx])
      have b12 := hb 12 (by simp [mkIdx])
      have b13 := hb 13 (by simp [mkIdx])
      have hL : mkL b = #[true, true, true, true, true, true, true, true, true, true, true, true, true, true, false] := by
        unfold mkL
        rw [hb 1 (by simp [mkIdx]), hb 2 (by simp [mkIdx]), hb 3 (by simp [mkIdx]), hb 4 (by simp [mkIdx]), hb 5 (by simp [mkIdx]), hb 6 (by simp [mkIdx]), hb 7 (by simp [mkIdx]), b8, b10, hb 11 (by simp [mkIdx]), b12, b13]
      rw [hL]
      obtain ⟨⟨d3, d4, d5, d6, d7⟩, _⟩ := hv.l8 b8
      obtain ⟨k3, hx3, hg3, hc3⟩ := hv.l3 d3
      obtain ⟨k4, hx4, hg4, hc4⟩ := hv.l4 d4
      obtain ⟨k5, hx5, hg5, hc5⟩ := hv.l5 d5
      obtain ⟨k6, hx6, hg6, hc6⟩ := hv.l6 d6
      obtain ⟨k7, hx7, hg7, hc7⟩ := hv.l7 d7
      have hx12 := (hv.v12 b12).2
      have hx13 := (hv.v13 b13).2
      have hcur := hv.cur
      rw [if_pos b10, if_pos b10] at hcur
      have HI5 := Aside0.mk hcur
      have HB5 := Aside0.mk hv.bel
      have hres : ∃ (m : List Int) (A : Option Addr), x 12 = .slice A m.length m.length ∧ m.length ≤ 110 ∧ Kd.C (Kd.int .i64) w A m.length m ∧ (∀ ad, A = some ad → 0 < m.length → ad.block ≠ g) := by
        rcases hk with rfl | rfl | rfl | rfl | rfl | rfl
        · exact ⟨[], none, (Option.some.inj hx12).symm, by decide, (show Kd.C (Kd.int .i64) w none 0 [] from Kd.C_of_reads (d := (0 : Int)) (h1 := fun _ => rfl) ⟨rfl, by decide, fun h => absurd h (by decide)⟩), (fun ad h => by cases h)⟩
        · exact ⟨[1], (some ⟨k3, 0, none⟩), (Option.some.inj hx12).symm.trans hx3, by decide, lit_C [1] (by decide) _ rfl hc3, (fun ad h _ => by cases h; exact hg3)⟩
        · exact ⟨[0], (some ⟨k4, 0, none⟩), (Option.some.inj hx12).symm.trans hx4, by decide, lit_C [0] (by decide) _ rfl hc4, (fun ad h _ => by cases h; exact hg4)⟩
        · exact ⟨[2, 2], (some ⟨k5, 0, none⟩), (Option.some.inj hx12).symm.trans hx5, by decide, lit_C [2, 2] (by decide) _ rfl hc5, (fun ad h _ => by cases h; exact hg5)⟩
        · exact ⟨[3, 1], (some ⟨k6, 0, none⟩), (Option.some.inj hx12).symm.trans hx6, by decide, lit_C [3, 1] (by decide) _ rfl hc6, (fun ad h _ => by cases h; exact hg6)⟩
        · exact ⟨[101], (some ⟨k7, 0, none⟩), (Option.some.inj hx12).symm.trans hx7, by decide, lit_C [101] (by decide) _ rfl hc7, (fun ad h _ => by cases h; exact hg7)⟩
      obtain ⟨m, A, hxm, hm1, hm2, hm3⟩ := hres
      have HF2 := Aside0.mk hm3
      have HM := Aside0.mk hm2
      have HM1 := Aside0.mk hm1
      simp only [hxm, hx13]
      generalize x 1 = y1
      generalize x 2 = y2
      generalize x 3 = y3
      generalize x 4 = y4
      generalize x 5 = y5
      generalize x 6 = y6
      generalize x 7 = y7
      generalize x 8 = y8
      generalize x 10 = y10
      generalize x 11 = y11
      generalize hn : m.length = n at HM HM1 HF2
      have HN := Aside0.mk hn
      clear hn hcur hv hx3 hx4 hx5 hx6 hx7 hx12 hx13 hxm hm1 hm2 hm3 hc3 hc4 hc5 hc6 hc7 hg3 hg4 hg5 hg6 hg7 HI HB hL b8 b10 b12 b13 hb d3 d4 d5 d6 d7 hk
      refine pure_ (i := 14) (N := some 3) (v := ?_) (a' := ?_) #[true, true, true, true, true, true, true, true, true, true, true, true, true, true, true] rfl rfl (by kernel_rfl) (fun _ _ _ h => h) (Or.inl ⟨by rfl, ?_⟩) ?_ ?_
      rotate_left
      · intro w'
        go_simp
        with_reducible rfl
      rotate_left
      · simp only [Act.put, List.setIfInBounds_toArray, List.set_cons_zero, List.set_cons_succ]
        rfl
      refine done_ (by kernel_rfl) ?_
      go_wp2
      go_ret2
      exact ⟨f, m, A, n, i4, s4, by rw [HN.out]; rfl, by rw [HN.out]; exact Nat.le_refl _, by rw [HN.out]; exact HM1.out, HF.out, by rw [HN.out]; exact HM.out, HI5.out, HB5.out, HI4.out.1, HI4.out.2, by rw [HN.out]; exact HF2.out⟩
  · subst hc
    clear p1 p4 p5 r1 r4 r5 hx1 hx2 h0 h1
    obtain ⟨rr, bb, hsr, hsl⟩ := shrink_ok x1 HR.out.1.1 HR.out.1.2
    have HSR := Aside0.mk hsr
    have HSL := Aside0.mk hsl
    clear hsr hsl
    go_enter Tryz.func61, Tryz.ntmps61
    go_wp2_with fail
    refine (spec_l1Cur_pick.calls g l i s 16 x1 i1 s1 w0 _ HI.out HB.out E1.out).mono ?_
    rintro e w1_ ⟨rfl, hI, hb, hk⟩
    clear HI HB hk
    have HI := Aside0.mk hI
    have HB := Aside0.mk hb
    clear hI hb
    go_wp2_with fail
    refine (spec_l1Cur_pick.calls g l i1 s1 12 1 i2 s2 w0 _ HI.out HB.out E2.out).mono ?_
    rintro e w2_ ⟨rfl, hI, hb, hk⟩
    clear HI HB hk
    have HI := Aside0.mk hI
    have HB := Aside0.mk hb
    clear hI hb
    go_wp2_with fail
    refine (spec_ShrinkingMarks.calls 60 x1 rr bb _ HSR.out).mono ?_
    rintro e w3_ ⟨v0_, rfl, hr, hb⟩
    obtain ⟨A_, c_, hv_⟩ := Kd.R_slice hr
    subst hv_
    have HC := Aside0.mk (Kd.R_reads' hr).2.2
    have HCL := Aside0.mk (Kd.R_reads' hr).2.1
    have HI_ := Aside0.mk (HI.out.below hb)
    have HB_ := Aside0.mk (below_step HB.out hb)
    have HF2 := Aside0.mk (far_slice (IsS72.own_ne HI_.out hr (by decide)))
    clear HI HB hr hb
    have HI := HI_
    have HB := HB_
    clear HI_ HB_
    generalize hn : rr.length = n at HC HCL HSL HF2
    have HN := Aside0.mk hn
    clear hn
    go_wp2
    go_ret2
    exact ⟨x1, rr, A_, c_, i2, s2, by rw [HN.out]; rfl, by rw [HN.out]; exact HCL.out, by rw [HN.out]; have := HSL.out; omega, by have := HR.out; omega, by rw [HN.out]; exact HC.out, HI.out, HB.out, by have := HR.out; omega, by have := HR.out; omega, by rw [HN.out]; exact HF2.out⟩
  · subst hc
    clear p1 p4 p5 r1 r4 r5 hx1 hx2 h0 h1
    obtain ⟨rr, bb, hsr, hsl⟩ := shrink_ok x1 HR.out.1.1 HR.out.1.2
    have HSR := Aside0.mk hsr
    have HSL := Aside0.mk hsl
    clear hsr hsl
    go_enter Tryz.func61, Tryz.ntmps61
    go_wp2_with fail
    refine (spec_l1Cur_pick.calls g l i s 16 x1 i1 s1 w0 _ HI.out HB.out E1.out).mono ?_
    rintro e w1_ ⟨rfl, hI, hb, hk⟩
    clear HI HB hk
    have HI := Aside0.mk hI
    have HB := Aside0.mk hb
    clear hI hb
    go_wp2_with fail
    refine (spec_l1Cur_pick.calls g l i1 s1 12 2 i2 s2 w0 _ HI.out HB.out E2.out).mono ?_
    rintro e w2_ ⟨rfl, hI, hb, hk⟩
    clear HI HB hk
    have HI := Aside0.mk hI
    have HB := Aside0.mk hb
    clear hI hb
    go_wp2_with fail
    refine (spec_ShrinkingMarks.calls 60 x1 rr bb _ HSR.out).mono ?_
    rintro e w3_ ⟨v0_, rfl, hr, hb⟩
    obtain ⟨A_, c_, hv_⟩ := Kd.R_slice hr
    subst hv_
    have HC := Aside0.mk (Kd.R_reads' hr).2.2
    have HCL := Aside0.mk (Kd.R_reads' hr).2.1
    have HI_ := Aside0.mk (HI.out.below hb)
    have HB_ := Aside0.mk (below_step HB.out hb)
    have HF2 := Aside0.mk (far_slice (IsS72.own_ne HI_.out hr (by decide)))
    clear HI HB hr hb
    have HI := HI_
    have HB := HB_
    clear HI_ HB_
    generalize hn : rr.length = n at HC HCL HSL HF2
    have HN := Aside0.mk hn
    clear hn
    go_wp2
    go_ret2
    exact ⟨x1, rr, A_, c_, i2, s2, by rw [HN.out]; rfl, by rw [HN.out]; exact HCL.out, by rw [HN.out]; have := HSL.out; omega, by have := HR.out; omega, by rw [HN.out]; exact HC.out, HI.out, HB.out, by have := HR.out; omega, by have := HR.out; omega, by rw [HN.out]; exact HF2.out⟩
  · subst hc
    clear p1 p4 p5 r1 r4 r5 hx1 hx2 h0 h1
    obtain ⟨rr, i3, s3, e3, hsl, hsx, hi3a, hi3b⟩ := sureMarks_ok l HL.out i2 s2 x1 (by have := HR.out; omega) (by have := HR.out; omega) (by have := HR.out; omega)
    obtain ⟨z, i4, s4, e4, hz0, _, hz2, hi4a, hi4b⟩ := pick_ok l HL.out i3 s3 2 (by have := HR.out; omega) (by have := HR.out; omega)
    have hz2 := hz2 (by omega)
    have HSL := Aside0.mk hsl
    have E3 := Aside0.mk e3
    have E4 := Aside0.mk e4
    have HI4 : Aside0 (i ≤ i4 ∧ i4 ≤ i + 500) := ⟨by have := HR.out; omega⟩
    obtain ⟨y, hy⟩ : ∃ y, y = wrap64 (x1 + z) := ⟨_, rfl⟩
    have q9 : IntKind.i64.wrap (x1 + z) = y := by rw [i64_w]; exact hy.symm
    clear e3 e4 hsl hsx hi3a hi3b hi4a hi4b hz0 hz2 hy
    go_enter Tryz.func61, Tryz.ntmps61
    go_wp2_with fail
    refine (spec_l1Cur_pick.calls g l i s 16 x1 i1 s1 w0 _ HI.out HB.out E1.out).mono ?_
    rintro e w1_ ⟨rfl, hI, hb, hk⟩
    clear HI HB hk
    have HI := Aside0.mk hI
    have HB := Aside0.mk hb
    clear hI hb
    go_wp2_with fail
    refine (spec_l1Cur_pick.calls g l i1 s1 12 3 i2 s2 w0 _ HI.out HB.out E2.out).mono ?_
    rintro e w2_ ⟨rfl, hI, hb, hk⟩
    clear HI HB hk
    have HI := Aside0.mk hI
    have HB := Aside0.mk hb
    clear hI hb
    go_wp2_with fail
    have HB2_ := Aside0.mk HB.out.size
    refine (spec_l1Cur_sureMarks.calls 500 g l i2 s2 x1 rr i3 s3 w0 _ HI.out HB.out E3.out).mono ?_
    rintro e w3_ ⟨vr, rfl, hr, hI, hb, hk⟩
    have HO := Aside0.mk (Kd.R_mono (ok' := fun k => k ≠ g) (Kd.R_bound hr) (fun k hk' => by
      have h2 := hk'.2.1
      have h3 := HI.out.fresh
      rintro rfl
      exact h3 k h2 rfl))
    clear HI HB hk hr
    have HI := Aside0.mk hI
    have HB := Aside0.mk hb
    clear hI hb
    go_wp2_with fail
    refine (spec_l1Cur_pick.calls g l i3 s3 2 z i4 s4 w0 _ HI.out HB.out E4.out).mono ?_
    rintro e w4_ ⟨rfl, hI, hb, hk⟩
    have HO_ := Aside0.mk (Kd.R_lower (Kd.R_keep HO.out hk (fun k h => h)) (base' := w0.heap.size) HB2_.out)
    clear HI HB HO
    have HO := HO_
    have HI := Aside0.mk hI
    have HB := Aside0.mk hb
    clear hI hb hk HO_
    go_wp2_with (first | ((with_reducible refine gate_builtin (b := .append) (xs := #[.tmp 41, .tmp 46]) rfl ?_); at_builtin; refine Kd.R_append (Kd.int .i64) (w0 := w0) w0.heap.size rfl (.tmp 41) (.tmp 46) 24 3 (.int .i64 0) 8 rfl Tryz.underlying24 info3 rfl (by decide) (by omega) vr rr y [.int .i64 y] (fun k => k ≠ g) (fun _ => False) rfl rfl ?aP (fun _ hk => hk.elim) ?aF ?aO ?aB ?aS ?aL ?_; (case aP => exact rfl); (case aB => exact HB.out); (case aF => exact HI.out.fresh); (case aO => exact HO.out); (case aS => exact HB.out.size); (case aL => have := HSL.out; omega); intro va wa ho hb hg hat; have HO2 := Aside0.mk ho; have HB2 := Aside0.mk hb; have HI2 := Aside0.mk (HI.out.grown hg (fun he => HO.out.1 g he.symm rfl)); clear HB HI HO ho hb hg hat))
    obtain ⟨A_, c_, hv_⟩ := Kd.R_slice HO2.out
    subst hv_
    have HC := Aside0.mk (Kd.R_reads' HO2.out).2.2
    have HCL := Aside0.mk (Kd.R_reads' HO2.out).2.1
    have HF2 := Aside0.mk (far_slice (IsS72.own_ne HI2.out HO2.out (by decide)))
    clear HO2
    generalize hn : (rr ++ [y]).length = n at HC HCL HF2
    have HN := Aside0.mk hn
    clear hn
    go_wp2
    go_ret2
    exact ⟨x1, rr ++ [y], A_, c_, i4, s4, by rw [HN.out]; rfl, by rw [HN.out]; exact HCL.out, by rw [List.length_append, List.length_singleton]; have := HSL.out; omega, by have := HR.out; omega, by rw [HN.out]; exact HC.out, HI2.out, HB2.out, by have := HI4.out; omega, by have := HI4.out; omega, by rw [HN.out]; exact HF2.out⟩
  · clear p1 p4 p5 r1 r4 r5 hx1 hx2 h0 h1
    obtain ⟨rr, i3, s3, e3, hsl, hsx, hi3a, hi3b⟩ := sureMarks_ok l HL.out i2 s2 x1 (by have := HR.out; omega) (by have := HR.out; omega) (by have := HR.out; omega)
    have HSL := Aside0.mk hsl
    have E3 := Aside0.mk e3
    have HI3 : Aside0 (i ≤ i3 ∧ i3 ≤ i + 400) := ⟨by have := HR.out; omega⟩
    have q1 : (x2 == 0) = false := beq_eq_false_iff_ne.mpr (by omega)
    have q2 : (x2 == 1) = false := beq_eq_false_iff_ne.mpr (by omega)
    have q3 : (x2 == 2) = false := beq_eq_false_iff_ne.mpr (by omega)
    have q4 : (x2 == 3) = false := beq_eq_false_iff_ne.mpr (by omega)
    clear e3 hsl hsx hi3a hi3b hc
    go_enter Tryz.func61, Tryz.ntmps61
    go_wp2_with fail
    refine (spec_l1Cur_pick.calls g l i s 16 x1 i1 s1 w0 _ HI.out HB.out E1.out).mono ?_
    rintro e w1_ ⟨rfl, hI, hb, hk⟩
    clear HI HB hk
    have HI := Aside0.mk hI
    have HB := Aside0.mk hb
    clear hI hb
    go_wp2_with fail
    refine (spec_l1Cur_pick.calls g l i1 s1 12 x2 i2 s2 w0 _ HI.out HB.out E2.out).mono ?_
    rintro e w2_ ⟨rfl, hI, hb, hk⟩
    clear HI HB hk
    have HI := Aside0.mk hI
    have HB := Aside0.mk hb
    clear hI hb
    go_wp2_with fail
    refine (spec_l1Cur_sureMarks.calls 500 g l i2 s2 x1 rr i3 s3 w0 _ HI.out HB.out E3.out).mono ?_
    rintro e w3_ ⟨v0_, rfl, hr, hI, hb, hk⟩
    obtain ⟨A_, c_, hv_⟩ := Kd.R_slice hr
    subst hv_
    have HC := Aside0.mk (Kd.R_reads' hr).2.2
    have HCL := Aside0.mk (Kd.R_reads' hr).2.1
    have HF2 := Aside0.mk (far_slice (IsS72.own_ne hI hr (by decide)))
    clear HI HB hk hr
    have HI := Aside0.mk hI
    have HB := Aside0.mk hb
    clear hI hb
    generalize hn : rr.length = n at HC HCL HSL HF2
    have HN := Aside0.mk hn
    clear hn
    go_wp2
    go_ret2
    exact ⟨x1, rr, A_, c_, i3, s3, by rw [HN.out]; rfl, by rw [HN.out]; exact HCL.out, by rw [HN.out]; have := HSL.out; omega, by have := HR.out; omega, by rw [HN.out]; exact HC.out, HI.out, HB.out, by have := HI3.out; omega, by have := HI3.out; omega, by rw [HN.out]; exact HF2.out⟩

/-! ### spec_DrawAreMarks: function 41, a contract of our own -/
def DAre (F : Nat) (W : World) (A : Option Addr) (n c : Nat) : Prop := Calls Tryz.prog F #[.slice A n c] W fun e w' => ∃ (f : Int) (m : List Int) (A1 : Option Addr) (c1 : Nat), e = .returned (.tuple #[.int .i64 f, .slice A1 m.length c1]) ∧ m.length ≤ c1 ∧ m.length ≤ 110 ∧ (-1 ≤ f ∧ f ≤ 200) ∧ Kd.C (Kd.int .i64) w' A1 m.length m ∧ Below W.heap.size W w'
def DDrp (F : Nat) (W : World) (A : Option Addr) (n c : Nat) : Prop := Calls Tryz.prog F #[.slice A n c] W fun e w' => ∃ (f : Int) (m : List Int) (p : Int) (A1 : Option Addr) (c1 : Nat), e = .returned (.tuple #[.int .i64 f, .slice A1 m.length c1, .int .i64 p]) ∧ m.length ≤ c1 ∧ m.length ≤ 110 ∧ (-1 ≤ f ∧ f ≤ 200) ∧ (-10 ≤ p ∧ p ≤ 300) ∧ Kd.C (Kd.int .i64) w' A1 m.length m ∧ Below W.heap.size W w'
def DTxt (F : Nat) (W : World) (A : Option Addr) (n c : Nat) : Prop := Calls Tryz.prog F #[.slice A n c] W fun e w' => ∃ (m : List Int) (A1 : Option Addr) (c1 : Nat), e = .returned (.slice A1 m.length c1) ∧ m.length ≤ c1 ∧ m.length ≤ 110 ∧ Kd.C (Kd.int .i64) w' A1 m.length m ∧ Below W.heap.size W w'
set_option maxHeartbeats 4000000 in
set_option maxRecDepth 100000 in
theorem draw_are (code : List Int) (hl : ∀ x ∈ code, 0 ≤ x ∧ x ≤ 255) (W : World) (A : Option Addr) (c : Nat) (h1 : code.length ≤ c) (h2 : Kd.C (Kd.int .u8) W A code.length code) : DAre 41 W A code.length c := by
  have hu := Tryz.underlying72
  have HL := Aside0.mk hl
  have HC := Aside0.mk h2
  have HB := Aside0.mk (Below.refl W.heap.size W)
  clear h1 h2 hl
  unfold DAre
  go_enter Tryz.func41, Tryz.ntmps41
  go_wp2_with (first | ((with_reducible refine gate_dst (N := 7) rfl ?_); refine box_event ?hg (N := 7) ?hd (cs := #[.slice A code.length c, .int .i64 0, .int .u64 0]) (t := 72) ?hr ?_; (case hd => rfl); (case hg => rfl); (case hr => first | (go_simp; done) | (go_simp; rfl)); intro gb hg w5 hbox hb; have HI : Aside0 (IsS72 W w5 gb code 0 0) := ⟨⟨A, c, hbox, by rw [hg]; exact HB.out.size, HC.out⟩⟩; have n0_ := Aside0.mk (below_step HB.out hb); clear HB hb hbox hg; have HB := n0_; clear n0_))
  refine (marks_calls code HL.out gb 0 0 (by omega) (by omega) W _ HI.out HB.out).mono ?_
  rintro e w1_ ⟨f, m, A1, c1, i', s', rfl, q1, q2, q3, q4, q5, q6, q7, q8, q9⟩
  have HM := Aside0.mk q4
  have HB2 := Aside0.mk q6
  have H1 := Aside0.mk q1
  have H2 := Aside0.mk q2
  have H3 := Aside0.mk q3
  clear q1 q2 q3 q4 q5 q6 q7 q8 q9 HI HB
  generalize hn : m.length = n at HM H1 H2
  have HN := Aside0.mk hn
  clear hn
  go_wp2
  go_ret2
  exact ⟨f, m, A1, c1, by rw [HN.out]; rfl, by rw [HN.out]; exact H1.out, by rw [HN.out]; exact H2.out, H3.out, by rw [HN.out]; exact HM.out, HB2.out⟩

end Go.Proofs.YtaniojfokildiaaGreatDoor.PrintA
