-- written by this session's own driver (wip/gen.py) with the kit's print and contracts of our own
import Derived.Test.YtmcjggjkfkkpbaaPrintA0
import Derived.Test.YtmcjggjkfkkpbaaPrintA2
import Derived.Test.YtmcjggjkfkkpbaaPrintA10
import Derived.StillTailTactics
namespace Go.Proofs.Ytmcjggjkfkkpbaa.PrintA
open Go.RowKit Go.Proofs.YtmcjggjkfkkpbaaLib Go.Proofs.YtmcjggjkfkkpbaaW.PrintWords Go.Proofs.YtmcjggjkfkkpbaaW.PrintLast Go.Proofs.YtmcjggjkfkkpbaaW.PrintMore
attribute [local go_sem] max2_int min2_int max_two min_two max_three min_three max_four min_four   -- for this text's walks alone
set_option linter.unusedVariables false
set_option linter.unusedSimpArgs false

/-! ### impl_open: function 42 -/
def impl_open.l0 : Nat → Int → Int → List (S42) → Int → Int → Option (Int × Int)
  | 0, _, _, _, _, _ => none
  | k + 1, x6, x7, x11, x12, x13 => if x13 < x12 then (if 0 ≤ x13 then (if x13 < (x11.length : Int) then (if (rd_T42 x11 x13).f1 = true then (impl_open.l0 k x6 (mn x7 (wrap64 (((rd_T42 x11 x13).f0) - 1))) x11 x12 (wrap64 (x13 + 1))) else (impl_open.l0 k (mx x6 ((rd_T42 x11 x13).f0)) x7 x11 x12 (wrap64 (x13 + 1)))) else (none)) else (none)) else (some (x6, x7))
def impl_open.f (k : Nat) (a0 : Int) (l1 : List (S42)) : Option (Int × Int) := impl_open.l0 k 0 a0 l1 (l1.length : Int) 0
theorem impl_open.mono_l : ∀ k, (∀ y0 y1 y2 y3 y4, LeO (impl_open.l0 k y0 y1 y2 y3 y4) (impl_open.l0 (k + 1) y0 y1 y2 y3 y4))
  | 0 => fun _ _ _ _ _ r h => by simp [impl_open.l0] at h
  | k + 1 => by
    have ih0 := impl_open.mono_l k
    · intro y0 y1 y2 y3 y4
      unfold impl_open.l0
      repeat' first
      | (with_reducible exact ih0 _ _ _ _ _)
      | (with_reducible exact LeO.refl _)
      | (with_reducible exact LeO.none _)
      | (with_reducible refine LeO.ite ?_ ?_)
      | (with_reducible refine LeO.bind ?_ (fun _ => ?_))
      | exact ih0 _ _ _ _ _
      | exact LeO.none _
      | refine LeO.ite ?_ ?_
      | refine LeO.bind ?_ (fun _ => ?_)
theorem impl_open.mono : ∀ a0 a1 k, LeO (impl_open.f k a0 a1) (impl_open.f (k + 1) a0 a1) := by
  intro a0 a1 k
  have ih0 := impl_open.mono_l k
  unfold impl_open.f
  repeat' first
      | (with_reducible exact ih0 _ _ _ _ _)
      | (with_reducible exact LeO.refl _)
      | (with_reducible exact LeO.none _)
      | (with_reducible refine LeO.ite ?_ ?_)
      | (with_reducible refine LeO.bind ?_ (fun _ => ?_))
      | exact ih0 _ _ _ _ _
      | exact LeO.none _
      | refine LeO.ite ?_ ?_
      | refine LeO.bind ?_ (fun _ => ?_)
set_option maxHeartbeats 8000000 in
set_option maxRecDepth 100000 in
theorem impl_open.calls (k : Nat) (a0 : Int) (A1 : Option Addr) (c1 : Nat) (l1 : List (S42)) (r1 : Int) (r2 : Int) (w : World) (hr1 : Kd.C k42 w A1 l1.length l1) (hc1 : l1.length ≤ c1) (h : impl_open.f k a0 l1 = some (r1, r2)) :
    Calls Try.prog 42 #[.int .i64 a0, .slice A1 l1.length c1] w fun e w' => e = .returned (.tuple #[.int .i64 r1, .int .i64 r2]) ∧ Below w.heap.size w w' := by
  have hu42 := Try.underlying42
  have HR1 := Aside0.mk hr1
  have HC1 := Aside0.mk hc1
  clear hr1 hc1
  have HB := Aside0.mk (Below.refl w.heap.size w)
  have H : (impl_open.l0 k 0 a0 l1 (l1.length : Int) 0) = some (r1, r2) := h
  clear h
  have H' := Aside0.mk H
  clear H
  go_enter Try.func42, Try.ntmps42
  go_wp2
  go_loopg [6, 7, 13] k (fun kq v6 v7 v13 w' => ∃ (x6_1 : Int) (x7_1 : Int) (x13_1 : Int), v6 = .int .i64 x6_1 ∧ v7 = .int .i64 x7_1 ∧ v13 = .int .i64 x13_1 ∧ Aside0 (impl_open.l0 kq x6_1 x7_1 l1 (l1.length : Int) x13_1 = some (r1, r2)) ∧ Aside0 (kq ≤ k) ∧ Aside0 (Below w.heap.size w w'))
  case atStart => exact ⟨(0), (a0), (0), (by first | rfl | (simp; done) | (simp [*]; done)), (by first | rfl | (simp; done) | (simp [*]; done)), (by first | rfl | (simp; done) | (simp [*]; done)), H', ⟨Nat.le_refl _⟩, ⟨by repeat (first | (with_reducible first | exact HB.out | apply below_alloc | apply pw_below_drewN | apply below_drew1) | exact HB.out)⟩⟩
  case round =>
    clear H'
    try clear c1
    try clear p2
    obtain ⟨x6_1, x7_1, x13_1, rfl, rfl, rfl, HA, HK1, HB⟩ := hrel
    cases gk with
    | zero => exact absurd HA.out (by simp [impl_open.l0])
    | succ k1 =>
      have H := HA.out
      clear HA
      simp only [impl_open.l0] at H
      by_cases c3 : x13_1 < (l1.length : Int)
      · rw [if_pos c3] at H
        have c3b0 : decide (x13_1 < (l1.length : Int)) = true := decide_eq_true c3
        clear c3
        by_cases c4 : 0 ≤ x13_1
        · rw [if_pos c4] at H
          have c4b0 : decide (0 ≤ x13_1) = true := decide_eq_true c4
          clear c4
          by_cases c5 : x13_1 < (l1.length : Int)
          · rw [if_pos c5] at H
            have c5b0 : decide (x13_1 < (l1.length : Int)) = true := decide_eq_true c5
            clear c5
            obtain ⟨bq6, hbq6⟩ : ∃ b_ : Bool, b_ = ((rd_T42 l1 x13_1).f1) := ⟨_, rfl⟩
            replace H : (if bq6 = true then (impl_open.l0 k1 x6_1 (mn x7_1 (wrap64 (((rd_T42 l1 x13_1).f0) - 1))) l1 (l1.length : Int) (wrap64 (x13_1 + 1))) else (impl_open.l0 k1 (mx x6_1 ((rd_T42 l1 x13_1).f0)) x7_1 l1 (l1.length : Int) (wrap64 (x13_1 + 1)))) = some (r1, r2) := by rw [← hbq6] at H; exact H
            have Nbq6 := Aside0.mk hbq6
            clear hbq6
            by_cases c7 : bq6 = true
            · subst c7
              have H1 : (impl_open.l0 k1 x6_1 (mn x7_1 (wrap64 (((rd_T42 l1 x13_1).f0) - 1))) l1 (l1.length : Int) (wrap64 (x13_1 + 1))) = some (r1, r2) := by rw [if_pos rfl] at H; exact H
              clear H
              have H := H1
              clear H1
              obtain ⟨ji8, hji8⟩ : ∃ j_ : Int, (mn x7_1 (wrap64 (((rd_T42 l1 x13_1).f0) - 1))) = j_ := ⟨_, rfl⟩
              replace H : (impl_open.l0 k1 x6_1 ji8 l1 (l1.length : Int) (wrap64 (x13_1 + 1))) = some (r1, r2) := by first | (rw [hji8] at H; exact H) | (simp only [hji8] at H ⊢; exact H)
              have hji8_ : (if (wrap64 (((rd_T42 l1 x13_1).f0) - 1)) < x7_1 then (wrap64 (((rd_T42 l1 x13_1).f0) - 1)) else x7_1) = ji8 := hji8
              have H' := Aside0.mk H
              clear H
              have p377 : 0 ≤ (x13_1 : Int) := of_decide_eq_true (by first | (with_reducible assumption) | assumption)
              have q377 : x13_1 < (l1.length : Int) := of_decide_eq_true (by first | (with_reducible assumption) | assumption)
              obtain ⟨ad377, e377, hx377_0, hx377_1⟩ := at_T42 HR1.out x13_1 p377 q377
              (try rw [← Nbq6.out] at hx377_1)
              cases e377
              replace hx377_0 := (HB.out.cell (World.block_lt_of_cell? w _ hx377_0)).trans hx377_0
              replace hx377_1 := (HB.out.cell (World.block_lt_of_cell? w _ hx377_1)).trans hx377_1
              replace p377 := eq_true p377
              replace q377 := eq_true q377
              go_wp2_with (first | ((with_reducible refine gate_dst (N := 9) rfl ?_); refine box_event ?hg (N := 9) ?hd (cs := #[.int .i64 0, .bool false]) (t := 42) ?hr ?_; (case hd => rfl); (case hg => rfl); (case hr => first | (go_simp; done) | (go_simp; rfl)); intro gb378 hg w9 hbox hb; have n0_ := Aside0.mk (below_step (by repeat (first | (with_reducible first | exact HB.out | apply below_alloc | apply pw_below_drewN | apply below_drew1) | exact HB.out)) hb); have n1_ := Aside0.mk (hbox); have n2_ := Aside0.mk ((by rw [hg]; exact (below_size (by repeat (first | (with_reducible first | exact HB.out | apply below_alloc | apply pw_below_drewN | apply below_drew1) | exact HB.out))) : w.heap.size ≤ gb378)); have n3_ := Aside0.mk ((by rw [hg]; exact (below_size (by repeat (first | (with_reducible first | exact HB.out | apply below_alloc | apply pw_below_drewN | apply below_drew1) | exact HB.out))) : w.heap.size ≤ gb378)); clear HB; have HB := n0_; have BK378 := n1_; have GW378 := n2_; have GE378 := n3_; clear n0_ n1_ n2_ n3_; clear hb hbox hg; have hcz10_0 : w9.cell? ⟨gb378, 0, none⟩ = some (.int .i64 0) := (blk_cell BK378.out 0).trans rfl; have hcz10_1 : w9.cell? ⟨gb378, 1, none⟩ = some (.bool false) := (blk_cell BK378.out 1).trans rfl; have hfz10_0 := blk_frozen BK378.out 0; have hfz10_1 := blk_frozen BK378.out 1))
              go_roundg k1
              case measure => have := HK1.out; omega
              case rel => exact ⟨(x6_1), (ji8), (wrap64 (x13_1 + 1)), (by first | rfl | (simp; done) | (simp [*]; done)), (by first | rfl | (simp; done) | (simp only [← hji8] <;> (first | rfl | simp)) | (simp [*]; done)), (by first | rfl | (simp; done) | (simp [*]; done)), H', ⟨by have := HK1.out; omega⟩, ⟨by repeat (first | (with_reducible first | exact HB.out | apply below_alloc | apply pw_below_drewN | apply below_drew1 | refine below_set ?_ GE378.out) | exact HB.out)⟩⟩
            · replace c7 := Bool.eq_false_iff.mpr c7
              subst c7
              have H1 : (impl_open.l0 k1 (mx x6_1 ((rd_T42 l1 x13_1).f0)) x7_1 l1 (l1.length : Int) (wrap64 (x13_1 + 1))) = some (r1, r2) := by rw [if_neg (show ¬ (false = true) by decide)] at H; exact H
              clear H
              have H := H1
              clear H1
              obtain ⟨ji11, hji11⟩ : ∃ j_ : Int, (mx x6_1 ((rd_T42 l1 x13_1).f0)) = j_ := ⟨_, rfl⟩
              replace H : (impl_open.l0 k1 ji11 x7_1 l1 (l1.length : Int) (wrap64 (x13_1 + 1))) = some (r1, r2) := by first | (rw [hji11] at H; exact H) | (simp only [hji11] at H ⊢; exact H)
              have hji11_ : (if x6_1 < ((rd_T42 l1 x13_1).f0) then ((rd_T42 l1 x13_1).f0) else x6_1) = ji11 := hji11
              have H' := Aside0.mk H
              clear H
              have p377 : 0 ≤ (x13_1 : Int) := of_decide_eq_true (by first | (with_reducible assumption) | assumption)
              have q377 : x13_1 < (l1.length : Int) := of_decide_eq_true (by first | (with_reducible assumption) | assumption)
              obtain ⟨ad377, e377, hx377_0, hx377_1⟩ := at_T42 HR1.out x13_1 p377 q377
              (try rw [← Nbq6.out] at hx377_1)
              cases e377
              replace hx377_0 := (HB.out.cell (World.block_lt_of_cell? w _ hx377_0)).trans hx377_0
              replace hx377_1 := (HB.out.cell (World.block_lt_of_cell? w _ hx377_1)).trans hx377_1
              replace p377 := eq_true p377
              replace q377 := eq_true q377
              go_wp2_with (first | ((with_reducible refine gate_dst (N := 9) rfl ?_); refine box_event ?hg (N := 9) ?hd (cs := #[.int .i64 0, .bool false]) (t := 42) ?hr ?_; (case hd => rfl); (case hg => rfl); (case hr => first | (go_simp; done) | (go_simp; rfl)); intro gb378 hg w12 hbox hb; have n0_ := Aside0.mk (below_step (by repeat (first | (with_reducible first | exact HB.out | apply below_alloc | apply pw_below_drewN | apply below_drew1) | exact HB.out)) hb); have n1_ := Aside0.mk (hbox); have n2_ := Aside0.mk ((by rw [hg]; exact (below_size (by repeat (first | (with_reducible first | exact HB.out | apply below_alloc | apply pw_below_drewN | apply below_drew1) | exact HB.out))) : w.heap.size ≤ gb378)); have n3_ := Aside0.mk ((by rw [hg]; exact (below_size (by repeat (first | (with_reducible first | exact HB.out | apply below_alloc | apply pw_below_drewN | apply below_drew1) | exact HB.out))) : w.heap.size ≤ gb378)); clear HB; have HB := n0_; have BK378 := n1_; have GW378 := n2_; have GE378 := n3_; clear n0_ n1_ n2_ n3_; clear hb hbox hg; have hcz13_0 : w12.cell? ⟨gb378, 0, none⟩ = some (.int .i64 0) := (blk_cell BK378.out 0).trans rfl; have hcz13_1 : w12.cell? ⟨gb378, 1, none⟩ = some (.bool false) := (blk_cell BK378.out 1).trans rfl; have hfz13_0 := blk_frozen BK378.out 0; have hfz13_1 := blk_frozen BK378.out 1))
              go_roundg k1
              case measure => have := HK1.out; omega
              case rel => exact ⟨(ji11), (x7_1), (wrap64 (x13_1 + 1)), (by first | rfl | (simp; done) | (simp only [← hji11] <;> (first | rfl | simp)) | (simp [*]; done)), (by first | rfl | (simp; done) | (simp [*]; done)), (by first | rfl | (simp; done) | (simp [*]; done)), H', ⟨by have := HK1.out; omega⟩, ⟨by repeat (first | (with_reducible first | exact HB.out | apply below_alloc | apply pw_below_drewN | apply below_drew1 | refine below_set ?_ GE378.out) | exact HB.out)⟩⟩
          · rw [if_neg c5] at H
            exact absurd H (by simp)
        · rw [if_neg c4] at H
          exact absurd H (by simp)
      · rw [if_neg c3] at H
        have c3b0 : decide (x13_1 < (l1.length : Int)) = false := decide_eq_false c3
        clear c3
        simp only [Option.some.injEq, Prod.mk.injEq] at H
        obtain ⟨rfl, rfl⟩ := H
        go_wp2
        go_ret2
        exact ⟨by first | rfl | (simp [errW_none, errW_some] <;> rfl) | (simp [*, errW_none, errW_some] <;> rfl), by repeat (first | (with_reducible first | exact HB.out | apply below_alloc | apply pw_below_drewN | apply below_drew1) | exact HB.out)⟩

/-! behind impl_open -/
def opStep (a : Int × Int) (d : S42) : Int × Int := if d.f1 = true then (a.1, min a.2 (d.f0 - 1)) else (max a.1 d.f0, a.2)
theorem open_go2 (ds : List S42) (hd : ∀ d ∈ ds, 0 ≤ d.f0 ∧ d.f0 ≤ 1000) : ∀ (r k j : Nat) (lo hi : Int), ds.length - j = r → j ≤ ds.length → ds.length ≤ 1000 → r < k → impl_open.l0 k lo hi ds (ds.length : Int) (j : Int) = some ((ds.drop j).foldl opStep (lo, hi))
  | 0, k, j, lo, hi, hr, hj, hl, hk => by
    obtain ⟨k, rfl⟩ : ∃ m, k = m + 1 := ⟨k - 1, by omega⟩
    rw [impl_open.l0, if_neg (by omega), List.drop_of_length_le (by omega)]
    rfl
  | r + 1, k, j, lo, hi, hr, hj, hl, hk => by
    obtain ⟨k, rfl⟩ : ∃ m, k = m + 1 := ⟨k - 1, by omega⟩
    have hlt : j < ds.length := by omega
    have hx := hd _ (List.getElem_mem hlt)
    have hrd : rd_T42 ds (j : Int) = ds[j] := by
      unfold rd_T42
      rw [Int.toNat_natCast, List.getD_eq_getElem?_getD, List.getElem?_eq_getElem hlt]; rfl
    have e1 : wrap64 (ds[j].f0 - 1) = ds[j].f0 - 1 := by unfold wrap64; omega
    have e2 : wrap64 ((j : Int) + 1) = ((j + 1 : Nat) : Int) := by clear e1; unfold wrap64; omega
    have hmn : mn hi (ds[j].f0 - 1) = min hi (ds[j].f0 - 1) := by clear e1 e2; unfold mn; split <;> omega
    have hmx : mx lo ds[j].f0 = max lo ds[j].f0 := by clear e1 e2 hmn; unfold mx; split <;> omega
    rw [impl_open.l0, if_pos (by clear e1 e2 hmn hmx; omega), if_pos (by clear e1 e2 hmn hmx; omega), if_pos (by clear e1 e2 hmn hmx; omega), hrd, e1, e2, hmn, hmx, List.drop_eq_getElem_cons hlt, List.foldl_cons, open_go2 ds hd r k (j + 1) _ _ (by clear e1 e2 hmn hmx; omega) (by clear e1 e2 hmn hmx; omega) hl (by clear e1 e2 hmn hmx; omega), open_go2 ds hd r k (j + 1) _ _ (by clear e1 e2 hmn hmx; omega) (by clear e1 e2 hmn hmx; omega) hl (by clear e1 e2 hmn hmx; omega)]
    have hst : opStep (lo, hi) ds[j] = if ds[j].f1 = true then (lo, min hi (ds[j].f0 - 1)) else (max lo ds[j].f0, hi) := rfl
    rw [hst]
    by_cases h : ds[j].f1 = true
    · rw [if_pos h, if_pos h]
    · rw [if_neg h, if_neg h]
theorem open_is2 (n : Int) (ds : List S42) (hd : ∀ d ∈ ds, 0 ≤ d.f0 ∧ d.f0 ≤ 1000) (hl : ds.length ≤ 1000) (k : Nat) (hk : ds.length < k) : impl_open.f k n ds = some (ds.foldl opStep (0, n)) := by
  unfold impl_open.f
  have := open_go2 ds hd ds.length k 0 0 n (by omega) (by omega) hl hk
  simpa using this

/-! behind impl_LeftOpen -/
theorem dropsT_acc : ∀ (t : Tr) (low x : Int) (acc : List S42), dropsT t low x acc = acc ++ dropsT t low x []
  | .nil, _, _, acc => by simp [dropsT]
  | .node b a, low, x, acc => by
    simp only [dropsT]
    by_cases h : low + ((b.size : Int) + 1) > x
    · rw [if_pos h, if_pos h, dropsT_acc b low x (acc ++ _), dropsT_acc b low x ([] ++ _), List.append_assoc]; rfl
    · rw [if_neg h, if_neg h, dropsT_acc a _ x (acc ++ _), dropsT_acc a _ x ([] ++ _), List.append_assoc]; rfl
theorem dropsT_open : ∀ (t : Tr) (low x : Int), low ≤ x → x ≤ low + t.size → (dropsT t low x []).foldl opStep (low, low + t.size) = (x, x)
  | .nil, low, x, h0, h1 => by
    simp only [Tr.size] at h1
    obtain rfl : x = low := by omega
    simp [dropsT, Tr.size]
  | .node b a, low, x, h0, h1 => by
    simp only [Tr.size] at h1
    simp only [dropsT]
    by_cases h : low + ((b.size : Int) + 1) > x
    · rw [if_pos h, dropsT_acc, List.foldl_append]
      have e : [(⟨low + ((b.size : Int) + 1), true⟩ : S42)].foldl opStep (low, low + ((Tr.node b a).size : Int)) = (low, low + (b.size : Int)) := by
        simp only [List.foldl_cons, List.foldl_nil, opStep, Tr.size, if_true]
        congr 1
        omega
      rw [List.nil_append, e]
      exact dropsT_open b low x h0 (by omega)
    · rw [if_neg h, dropsT_acc, List.foldl_append]
      have e : [(⟨low + ((b.size : Int) + 1), false⟩ : S42)].foldl opStep (low, low + ((Tr.node b a).size : Int)) = (low + ((b.size : Int) + 1), low + ((b.size : Int) + 1) + (a.size : Int)) := by
        simp only [List.foldl_cons, List.foldl_nil, opStep, Tr.size]
        rw [if_neg (by decide)]
        congr 1 <;> omega
      rw [List.nil_append, e]
      exact dropsT_open a _ x (by omega) (by omega)
theorem dropsT_in : ∀ (t : Tr) (low x : Int), ∀ d ∈ dropsT t low x [], low + 1 ≤ d.f0 ∧ d.f0 ≤ low + t.size
  | .nil, low, x, d, hd => by simp [dropsT] at hd
  | .node b a, low, x, d, hd => by
    simp only [dropsT] at hd
    simp only [Tr.size]
    by_cases h : low + ((b.size : Int) + 1) > x
    · rw [if_pos h, dropsT_acc] at hd
      rcases List.mem_append.1 hd with h1 | h1
      · simp at h1; subst h1; dsimp only; omega
      · have := dropsT_in b low x d h1; omega
    · rw [if_neg h, dropsT_acc] at hd
      rcases List.mem_append.1 hd with h1 | h1
      · simp at h1; subst h1; dsimp only; omega
      · have := dropsT_in a _ x d h1; omega
def cntB (l : List S42) : Nat := l.countP (fun d => d.f1)
/-- How many eggs a break breaks. -/
def brkT : Tr → Int → Nat
  | .nil, _ => 0
  | .node b a, x => if (b.size : Int) + 1 > x then brkT b x + 1 else brkT a (x - (b.size + 1))
theorem dropsT_brk : ∀ (t : Tr) (low x : Int), cntB (dropsT t low x []) = brkT t (x - low)
  | .nil, _, _ => rfl
  | .node b a, low, x => by
    simp only [dropsT, brkT]
    by_cases h : low + ((b.size : Int) + 1) > x
    · rw [if_pos h, if_pos (by omega), dropsT_acc, cntB, List.countP_append]
      have := dropsT_brk b low x
      rw [cntB] at this
      rw [this]; simp; omega
    · rw [if_neg h, if_neg (by omega), dropsT_acc, cntB, List.countP_append]
      have := dropsT_brk a (low + ((b.size : Int) + 1)) x
      rw [cntB] at this
      rw [this, show x - (low + ((b.size : Int) + 1)) = x - low - ((b.size : Int) + 1) by omega]; simp
theorem brkT_le : ∀ (t : Tr) (x : Int), brkT t x ≤ t.size
  | .nil, _ => Nat.le_refl _
  | .node b a, x => by
    have h1 := brkT_le b x
    have h2 := brkT_le a (x - (b.size + 1))
    simp only [brkT, Tr.size]
    split <;> omega
def maxTo (g : Nat → Int) : Nat → Int
  | 0 => 0
  | n + 1 => max (maxTo g n) (g n)
theorem maxTo_nonneg (g : Nat → Int) : ∀ n, 0 ≤ maxTo g n
  | 0 => Int.le_refl _
  | n + 1 => by have := maxTo_nonneg g n; rw [maxTo]; omega
theorem maxTo_congr (g h : Nat → Int) : ∀ n, (∀ i, i < n → g i = h i) → maxTo g n = maxTo h n
  | 0, _ => rfl
  | n + 1, e => by rw [maxTo, maxTo, maxTo_congr g h n (fun i hi => e i (by omega)), e n (by omega)]
theorem maxTo_add (g : Nat → Int) (c : Int) (hc : 0 ≤ c) (hg : ∀ i, 0 ≤ g i) : ∀ n, maxTo (fun i => g i + c) (n + 1) = maxTo g (n + 1) + c
  | 0 => by have := hg 0; simp only [maxTo]; omega
  | n + 1 => by rw [maxTo, maxTo_add g c hc hg n]; have : maxTo g (n + 1 + 1) = max (maxTo g (n + 1)) (g (n + 1)) := rfl; rw [this]; omega
theorem maxTo_split (g : Nat → Int) (m : Nat) : ∀ n, maxTo g (m + n) = max (maxTo g m) (maxTo (fun i => g (m + i)) n)
  | 0 => by have := maxTo_nonneg g m; simp only [maxTo, Nat.add_zero]; omega
  | n + 1 => by rw [← Nat.add_assoc, maxTo, maxTo_split g m n, maxTo]; omega
theorem tests_is : ∀ t : Tr, maxTo (fun x => (t.lenT x : Int)) (t.size + 1) = t.tests
  | .nil => rfl
  | .node b a => by
    have h1 := tests_is b
    have h2 := tests_is a
    have e : (Tr.node b a).size + 1 = (b.size + 1) + (a.size + 1) := by simp only [Tr.size]; omega
    rw [e, maxTo_split]
    have e1 : maxTo (fun x => ((Tr.node b a).lenT x : Int)) (b.size + 1) = maxTo (fun x => (b.lenT x : Int) + 1) (b.size + 1) := by
      apply maxTo_congr
      intro i hi
      simp only [Tr.lenT]
      rw [if_pos (by omega)]; omega
    have e2 : maxTo (fun i => ((Tr.node b a).lenT ((b.size + 1 + i : Nat) : Int) : Int)) (a.size + 1) = maxTo (fun x => (a.lenT x : Int) + 1) (a.size + 1) := by
      apply maxTo_congr
      intro i hi
      simp only [Tr.lenT]
      rw [if_neg (by omega), show ((b.size + 1 + i : Nat) : Int) - ((b.size : Int) + 1) = (i : Int) by omega]; omega
    rw [e1, e2, maxTo_add _ 1 (by omega) (fun _ => by omega), maxTo_add _ 1 (by omega) (fun _ => by omega), h1, h2]
    simp only [Tr.tests]
    omega
theorem eggs_is : ∀ t : Tr, maxTo (fun x => (brkT t x : Int)) (t.size + 1) = t.eggs
  | .nil => rfl
  | .node b a => by
    have h1 := eggs_is b
    have h2 := eggs_is a
    have e : (Tr.node b a).size + 1 = (b.size + 1) + (a.size + 1) := by simp only [Tr.size]; omega
    rw [e, maxTo_split]
    have e1 : maxTo (fun x => (brkT (Tr.node b a) x : Int)) (b.size + 1) = maxTo (fun x => (brkT b x : Int) + 1) (b.size + 1) := by
      apply maxTo_congr
      intro i hi
      simp only [brkT]
      rw [if_pos (by omega)]; omega
    have e2 : maxTo (fun i => (brkT (Tr.node b a) ((b.size + 1 + i : Nat) : Int) : Int)) (a.size + 1) = maxTo (fun x => (brkT a x : Int)) (a.size + 1) := by
      apply maxTo_congr
      intro i hi
      simp only [brkT]
      rw [if_neg (by omega), show ((b.size + 1 + i : Nat) : Int) - ((b.size : Int) + 1) = (i : Int) by omega]
    rw [e1, e2, maxTo_add _ 1 (by omega) (fun _ => by omega), h1, h2]
    simp only [Tr.eggs]
theorem mirror_twice : ∀ t : Tr, t.mirror.mirror = t
  | .nil => rfl
  | .node b a => by simp only [Tr.mirror, mirror_twice b, mirror_twice a]
theorem mirror_tests : ∀ t : Tr, t.mirror.tests = t.tests
  | .nil => rfl
  | .node b a => by simp only [Tr.mirror, Tr.tests, mirror_tests b, mirror_tests a]; omega
theorem mirror_sum : ∀ t : Tr, t.mirror.sum = t.sum
  | .nil => rfl
  | .node b a => by simp only [Tr.mirror, Tr.sum, mirror_sum b, mirror_sum a, b.mirror_size, a.mirror_size]; omega
theorem settled_at (t : Tr) (ht : t.size ≤ 30) (x : Nat) (hx : x ≤ t.size) : impl_AreDrops.f (t.size : Int) (dropsT t 0 x []) = some true ∧ impl_open.f 200 (t.size : Int) (dropsT t 0 x []) = some ((x : Int), (x : Int)) := by
  have hlen := dropsT_len t 0 x []
  have hle := t.lenT_le (x - 0)
  simp only [List.length_nil] at hlen
  have hin := dropsT_in t 0 x
  have ho := dropsT_open t 0 x (by omega) (by omega)
  refine ⟨?_, ?_⟩
  · unfold impl_AreDrops.f
    rw [if_pos (by omega), decide_eq_true (by omega), decide_eq_true (by omega), decide_eq_true (by omega), Bool.true_and, Bool.true_and]
    congr 1
    rw [Bool.true_and, List.all_eq_true]
    intro d hd
    have := hin d hd
    rw [decide_eq_true (by omega), decide_eq_true (by omega)]
    rfl
  · rw [open_is2 _ _ (fun d hd => by have := hin d hd; omega) (by omega) 200 (by omega)]
    rw [Int.zero_add] at ho
    rw [ho]

/-! behind impl_IsSettled -/
-- IMPORT Derived.StillTailTactics
def OnI (F : Nat) (l : List Int) (n : Nat) (res : Value) : Prop := ∀ W A c, n ≤ c → Kd.C (Kd.int .i64) W A n l → Calls Try.prog F #[.slice A n c] W fun e w' => e = .returned res ∧ Below W.heap.size W w'
def OnIR (F : Nat) (l : List Int) (n : Nat) (r : List Int) (m : Nat) (b : Bool) : Prop := ∀ W A c, n ≤ c → Kd.C (Kd.int .i64) W A n l → Calls Try.prog F #[.slice A n c] W fun e w' => ∃ A1 c1, e = .returned (.tuple #[.slice A1 m c1, .bool b]) ∧ m ≤ c1 ∧ Kd.C (Kd.int .i64) w' A1 m r ∧ Below W.heap.size W w'
def OnIRR (F : Nat) (l : List Int) (n : Nat) (r : List Int) (m : Nat) (s : List Int) (m2 : Nat) (b : Bool) : Prop := ∀ W A c, n ≤ c → Kd.C (Kd.int .i64) W A n l → Calls Try.prog F #[.slice A n c] W fun e w' => ∃ A1 c1 A2 c2, e = .returned (.tuple #[.slice A1 m c1, .slice A2 m2 c2, .bool b]) ∧ m ≤ c1 ∧ Kd.C (Kd.int .i64) w' A1 m r ∧ m2 ≤ c2 ∧ Kd.C (Kd.int .i64) w' A2 m2 s ∧ Below W.heap.size W w'
def OnIIR (F : Nat) (x : List Int) (nx : Nat) (y : List Int) (ny : Nat) (r : List Int) (m : Nat) (b : Bool) : Prop := ∀ W A c A' c', nx ≤ c → Kd.C (Kd.int .i64) W A nx x → ny ≤ c' → Kd.C (Kd.int .i64) W A' ny y → Calls Try.prog F #[.slice A nx c, .slice A' ny c'] W fun e w' => ∃ A1 c1, e = .returned (.tuple #[.slice A1 m c1, .bool b]) ∧ m ≤ c1 ∧ Kd.C (Kd.int .i64) w' A1 m r ∧ Below W.heap.size W w'
def OnSame (x : List Int) (n : Nat) : Prop := ∀ W A c A' c', n ≤ c → Kd.C (Kd.int .i64) W A n x → n ≤ c' → Kd.C (Kd.int .i64) W A' n x → Calls Try.prog 16 #[.slice A n c, .slice A' n c'] W fun e w' => e = .returned (.bool true) ∧ Below W.heap.size W w'
def OnSameD (x : List S42) (n : Nat) : Prop := ∀ W A c A' c', n ≤ c → Kd.C k42 W A n x → n ≤ c' → Kd.C k42 W A' n x → Calls Try.prog 27 #[.slice A n c, .slice A' n c'] W fun e w' => e = .returned (.bool true) ∧ Below W.heap.size W w'
def OnID (F : Nat) (l : List Int) (n : Nat) (x : Int) (r : List S42) (m : Nat) (b : Bool) : Prop := ∀ W A c, n ≤ c → Kd.C (Kd.int .i64) W A n l → Calls Try.prog F #[.slice A n c, .int .i64 x] W fun e w' => ∃ A1 c1, e = .returned (.tuple #[.slice A1 m c1, .bool b]) ∧ m ≤ c1 ∧ Kd.C k42 w' A1 m r ∧ Below W.heap.size W w'
def OnDr (F : Nat) (n : Int) (r : List S42) (m : Nat) (res : Value) : Prop := ∀ W A c, m ≤ c → Kd.C k42 W A m r → Calls Try.prog F #[.int .i64 n, .slice A m c] W fun e w' => e = .returned res ∧ Below W.heap.size W w'
def DrawL (code : List Int) (nc : Nat) (l : List Int) (n : Nat) : Prop := ∀ W A c, nc ≤ c → Kd.C (Kd.int .u8) W A nc code → Calls Try.prog 5 #[.slice A nc c] W fun e w' => ∃ A1 c1, e = .returned (.slice A1 n c1) ∧ n ≤ c1 ∧ Kd.C (Kd.int .i64) w' A1 n l ∧ Below W.heap.size W w'
def DrawJ (code : List Int) (nc : Nat) (x : List Int) (nx : Nat) (y : List Int) (ny : Nat) : Prop := ∀ W A c, nc ≤ c → Kd.C (Kd.int .u8) W A nc code → Calls Try.prog 23 #[.slice A nc c] W fun e w' => ∃ A1 c1 A2 c2, e = .returned (.tuple #[.slice A1 nx c1, .slice A2 ny c2]) ∧ nx ≤ c1 ∧ Kd.C (Kd.int .i64) w' A1 nx x ∧ ny ≤ c2 ∧ Kd.C (Kd.int .i64) w' A2 ny y ∧ Below W.heap.size W w'
def DrawD (code : List Int) (nc : Nat) (z : List Int) (nz : Nat) (k : Int) : Prop := ∀ W A c, nc ≤ c → Kd.C (Kd.int .u8) W A nc code → Calls Try.prog 25 #[.slice A nc c] W fun e w' => ∃ A1 c1, e = .returned (.tuple #[.slice A1 nz c1, .int .i64 k]) ∧ nz ≤ c1 ∧ Kd.C (Kd.int .i64) w' A1 nz z ∧ Below W.heap.size W w'
def OnBig (code : List Int) (nc : Nat) (more : List Int) (nm : Nat) : Prop := ∀ W A c A' c', nc ≤ c → Kd.C (Kd.int .u8) W A nc code → nm ≤ c' → Kd.C (Kd.int .u8) W A' nm more → Calls Try.prog 4 #[.slice A nc c, .slice A' nm c'] W fun e w' => e = .returned (.bool false) ∧ Below W.heap.size W w'
/-- What the law's first half meets. -/
structure TF (code : List Int) (nc : Nat) (l : List Int) (n : Nat) (below : List Int) (nb : Nat) (above : List Int) (na : Nat) (mir : List Int) (nm : Nat) (tests eggs sum : Int) (ok five : Bool) : Prop where
  draw : DrawL code nc l n
  t1 : OnI 6 l n (.tuple #[.int .i64 tests, .bool ok])
  t2 : OnI 7 l n (.tuple #[.int .i64 tests, .bool ok])
  e1 : OnI 8 l n (.tuple #[.int .i64 eggs, .bool ok])
  e2 : OnI 9 l n (.tuple #[.int .i64 eggs, .bool ok])
  s1 : OnI 10 l n (.tuple #[.int .i64 sum, .bool ok])
  s2 : OnI 11 l n (.tuple #[.int .i64 sum, .bool ok])
  p1 : OnIRR 12 l n below nb above na five
  p2 : OnIRR 13 l n below nb above na five
  m1 : OnIR 14 l n mir nm ok
  m2 : OnIR 15 l n mir nm ok
  i1 : OnI 17 l n (.bool ok)
  i2 : OnI 18 l n (.bool ok)
  b : OnSame below nb
  a : OnSame above na
  m : OnSame mir nm
/-- What the law's loop meets. -/
structure TL (l : List Int) (n : Nat) (mir : List Int) (nm : Nat) (tests eggs sum : Int) (ds : Nat → List S42) (dl : Nat → Nat) (mx bx sm : Nat → Int) : Prop where
  drops : ∀ k, k ≤ n → OnID 19 l n (k : Int) (ds k) (dl k) true
  set : ∀ k, k ≤ n → OnDr 20 (n : Int) (ds k) (dl k) (.tuple #[.bool true, .bool true])
  opn : ∀ k, k ≤ n → OnDr 21 (n : Int) (ds k) (dl k) (.tuple #[.int .i64 (k : Int), .int .i64 (k : Int), .bool true])
  dlen : ∀ k, k ≤ n → (ds k).length = dl k
  len : ∀ k, k ≤ n → dl k ≤ 30
  mx0 : mx 0 = 0
  bx0 : bx 0 = 0
  sm0 : sm 0 = 0
  mxs : ∀ k, k ≤ n → mx (k + 1) = max (mx k) (dl k : Int)
  bxs : ∀ k, k ≤ n → bx (k + 1) = max (bx k) (cntB (ds k) : Int)
  sms : ∀ k, k ≤ n → sm (k + 1) = sm k + (dl k : Int)
  smb : ∀ k, k ≤ n → 0 ≤ sm k ∧ sm k ≤ 1000
  mxe : mx (n + 1) = tests
  bxe : bx (n + 1) = eggs
  sme : sm (n + 1) = sum
  mm : OnIR 14 mir nm l n true
  mt : OnI 6 mir nm (.tuple #[.int .i64 tests, .bool true])
  ms : OnI 10 mir nm (.tuple #[.int .i64 sum, .bool true])
  same : OnSame l n
/-- What the law's second half meets. -/
structure TS (more : List Int) (nm : Nat) (x : List Int) (nx : Nat) (y : List Int) (ny : Nat) (j : List Int) (nj : Nat) (z : List Int) (nz : Nat) (k : Int) (rows : List S42) (nr : Nat) (nine fine : Bool) : Prop where
  dj : DrawJ more nm x nx y ny
  j1 : OnIIR 22 x nx y ny j nj nine
  j2 : OnIIR 24 x nx y ny j nj nine
  dd : DrawD more nm z nz k
  t1 : OnID 19 z nz k rows nr fine
  t2 : OnID 26 z nz k rows nr fine
  sj : OnSame j nj
  sd : OnSameD rows nr
theorem big_no (code more : List Int) (h : code.length + more.length ≤ 1048576) : OnBig code code.length more more.length := fun W A c A' c' h1 h2 h3 h4 =>
  (laws_big.calls A c code A' c' more false W h2 h1 h4 h3 (by
    have e_ : wrap64 (1048576 - (code.length : Int)) = 1048576 - (code.length : Int) := by unfold wrap64; omega
    unfold laws_big.f
    rw [e_, if_neg (by clear e_; omega), decide_eq_false (by clear e_; omega)])).mono fun _ _ h => ⟨h.1, h.2.below⟩
theorem take_cnt (l : List S42) (i : Nat) (hi : i < l.length) : cntB (l.take (i + 1)) = cntB (l.take i) + (if (rd_T42 l (i : Int)).f1 = true then 1 else 0) := by
  have h : rd_T42 l (i : Int) = l[i] := by
    unfold rd_T42
    rw [Int.toNat_natCast, List.getD_eq_getElem?_getD, List.getElem?_eq_getElem hi]; rfl
  rw [h, List.take_add_one, List.getElem?_eq_getElem hi]
  unfold cntB
  rw [List.countP_append]
  simp [List.countP_cons]

end Go.Proofs.Ytmcjggjkfkkpbaa.PrintA
