-- written by this session's own driver (wip/gen.py) with the kit's print and contracts of our own
import Derived.Test.YtfelkkonjbhkjaaPrintA0
import Derived.Test.YtfelkkonjbhkjaaPrintA1
import Derived.Test.YtfelkkonjbhkjaaPrintA2
import Derived.Test.YtfelkkonjbhkjaaPrintA11
namespace Go.Proofs.Ytfelkkonjbhkjaa.PrintA
open Go.RowKit Go.Proofs.YtfelkkonjbhkjaaLib Go.Proofs.YtfelkkonjbhkjaaW.PrintWords Go.Proofs.YtfelkkonjbhkjaaW.PrintLast Go.Proofs.YtfelkkonjbhkjaaW.PrintMore
attribute [local go_sem] max2_int min2_int max_two min_two max_three min_three max_four min_four   -- for this text's walks alone
set_option linter.unusedVariables false
set_option linter.unusedSimpArgs false

/-! ### impl_open: function 48 -/
def impl_open.l0 : Nat → Int → Int → List (S61) → Int → Int → Option (Int × Int)
  | 0, _, _, _, _, _ => none
  | k + 1, x6, x7, x11, x12, x13 => if x13 < x12 then (if 0 ≤ x13 then (if x13 < (x11.length : Int) then (if (rd_T61 x11 x13).f1 = true then (impl_open.l0 k x6 (mn x7 (wrap64 (((rd_T61 x11 x13).f0) - 1))) x11 x12 (wrap64 (x13 + 1))) else (impl_open.l0 k (mx x6 ((rd_T61 x11 x13).f0)) x7 x11 x12 (wrap64 (x13 + 1)))) else (none)) else (none)) else (some (x6, x7))
def impl_open.f (k : Nat) (a0 : Int) (l1 : List (S61)) : Option (Int × Int) := impl_open.l0 k 0 a0 l1 (l1.length : Int) 0
theorem impl_open.mono_l : ∀ k, (∀ y0 y1 y2 y3 y4, LeO (impl_open.l0 k y0 y1 y2 y3 y4) (impl_open.l0 (k + 1) y0 y1 y2 y3 y4))
  | 0 => fun _ _ _ _ _ r h => by simp [impl_open.l0] at h
  | k + 1 => by
    have ih0 := impl_open.mono_l k
    · intro y0 y1 y2 y3 y4
      unfold impl_open.l0
      repeat' first
      | (with_reducible exact ih0 _ _ _ _ _)
      | (with_reducible exact LeO.refl _)
      | (with_reducible exact LeO.none _)
      | (with_reducible refine LeO.ite ?_ ?_)
      | (with_reducible refine LeO.bind ?_ (fun _ => ?_))
      | exact ih0 _ _ _ _ _
      | exact LeO.none _
      | refine LeO.ite ?_ ?_
      | refine LeO.bind ?_ (fun _ => ?_)
theorem impl_open.mono : ∀ a0 a1 k, LeO (impl_open.f k a0 a1) (impl_open.f (k + 1) a0 a1) := by
  intro a0 a1 k
  have ih0 := impl_open.mono_l k
  unfold impl_open.f
  repeat' first
      | (with_reducible exact ih0 _ _ _ _ _)
      | (with_reducible exact LeO.refl _)
      | (with_reducible exact LeO.none _)
      | (with_reducible refine LeO.ite ?_ ?_)
      | (with_reducible refine LeO.bind ?_ (fun _ => ?_))
      | exact ih0 _ _ _ _ _
      | exact LeO.none _
      | refine LeO.ite ?_ ?_
      | refine LeO.bind ?_ (fun _ => ?_)
set_option maxHeartbeats 8000000 in
set_option maxRecDepth 100000 in
theorem impl_open.calls (k : Nat) (a0 : Int) (A1 : Option Addr) (c1 : Nat) (l1 : List (S61)) (r1 : Int) (r2 : Int) (w : World) (hr1 : Kd.C k61 w A1 l1.length l1) (hc1 : l1.length ≤ c1) (h : impl_open.f k a0 l1 = some (r1, r2)) :
    Calls Try.prog 48 #[.int .i64 a0, .slice A1 l1.length c1] w fun e w' => e = .returned (.tuple #[.int .i64 r1, .int .i64 r2]) ∧ Below w.heap.size w w' := by
  have hu61 := Try.underlying61
  have HR1 := Aside0.mk hr1
  have HC1 := Aside0.mk hc1
  clear hr1 hc1
  have HB := Aside0.mk (Below.refl w.heap.size w)
  have H : (impl_open.l0 k 0 a0 l1 (l1.length : Int) 0) = some (r1, r2) := h
  clear h
  have H' := Aside0.mk H
  clear H
  go_enter Try.func48, Try.ntmps48
  go_wp2
  go_loopg [6, 7, 13] k (fun kq v6 v7 v13 w' => ∃ (x6_1 : Int) (x7_1 : Int) (x13_1 : Int), v6 = .int .i64 x6_1 ∧ v7 = .int .i64 x7_1 ∧ v13 = .int .i64 x13_1 ∧ Aside0 (impl_open.l0 kq x6_1 x7_1 l1 (l1.length : Int) x13_1 = some (r1, r2)) ∧ Aside0 (kq ≤ k) ∧ Aside0 (Below w.heap.size w w'))
  case atStart => exact ⟨(0), (a0), (0), (by first | rfl | (simp; done) | (simp [*]; done)), (by first | rfl | (simp; done) | (simp [*]; done)), (by first | rfl | (simp; done) | (simp [*]; done)), H', ⟨Nat.le_refl _⟩, ⟨by repeat (first | (with_reducible first | exact HB.out | apply below_alloc | apply pw_below_drewN | apply below_drew1) | exact HB.out)⟩⟩
  case round =>
    clear H'
    try clear c1
    try clear p2
    obtain ⟨x6_1, x7_1, x13_1, rfl, rfl, rfl, HA, HK1, HB⟩ := hrel
    cases gk with
    | zero => exact absurd HA.out (by simp [impl_open.l0])
    | succ k1 =>
      have H := HA.out
      clear HA
      simp only [impl_open.l0] at H
      by_cases c3 : x13_1 < (l1.length : Int)
      · rw [if_pos c3] at H
        have c3b0 : decide (x13_1 < (l1.length : Int)) = true := decide_eq_true c3
        clear c3
        by_cases c4 : 0 ≤ x13_1
        · rw [if_pos c4] at H
          have c4b0 : decide (0 ≤ x13_1) = true := decide_eq_true c4
          clear c4
          by_cases c5 : x13_1 < (l1.length : Int)
          · rw [if_pos c5] at H
            have c5b0 : decide (x13_1 < (l1.length : Int)) = true := decide_eq_true c5
            clear c5
            obtain ⟨bq6, hbq6⟩ : ∃ b_ : Bool, b_ = ((rd_T61 l1 x13_1).f1) := ⟨_, rfl⟩
            replace H : (if bq6 = true then (impl_open.l0 k1 x6_1 (mn x7_1 (wrap64 (((rd_T61 l1 x13_1).f0) - 1))) l1 (l1.length : Int) (wrap64 (x13_1 + 1))) else (impl_open.l0 k1 (mx x6_1 ((rd_T61 l1 x13_1).f0)) x7_1 l1 (l1.length : Int) (wrap64 (x13_1 + 1)))) = some (r1, r2) := by rw [← hbq6] at H; exact H
            have Nbq6 := Aside0.mk hbq6
            clear hbq6
            by_cases c7 : bq6 = true
            · subst c7
              have H1 : (impl_open.l0 k1 x6_1 (mn x7_1 (wrap64 (((rd_T61 l1 x13_1).f0) - 1))) l1 (l1.length : Int) (wrap64 (x13_1 + 1))) = some (r1, r2) := by rw [if_pos rfl] at H; exact H
              clear H
              have H := H1
              clear H1
              obtain ⟨ji8, hji8⟩ : ∃ j_ : Int, (mn x7_1 (wrap64 (((rd_T61 l1 x13_1).f0) - 1))) = j_ := ⟨_, rfl⟩
              replace H : (impl_open.l0 k1 x6_1 ji8 l1 (l1.length : Int) (wrap64 (x13_1 + 1))) = some (r1, r2) := by first | (rw [hji8] at H; exact H) | (simp only [hji8] at H ⊢; exact H)
              have hji8_ : (if (wrap64 (((rd_T61 l1 x13_1).f0) - 1)) < x7_1 then (wrap64 (((rd_T61 l1 x13_1).f0) - 1)) else x7_1) = ji8 := hji8
              have H' := Aside0.mk H
              clear H
              have p213 : 0 ≤ (x13_1 : Int) := of_decide_eq_true (by first | (with_reducible assumption) | assumption)
              have q213 : x13_1 < (l1.length : Int) := of_decide_eq_true (by first | (with_reducible assumption) | assumption)
              obtain ⟨ad213, e213, hx213_0, hx213_1⟩ := at_T61 HR1.out x13_1 p213 q213
              (try rw [← Nbq6.out] at hx213_1)
              cases e213
              replace hx213_0 := (HB.out.cell (World.block_lt_of_cell? w _ hx213_0)).trans hx213_0
              replace hx213_1 := (HB.out.cell (World.block_lt_of_cell? w _ hx213_1)).trans hx213_1
              replace p213 := eq_true p213
              replace q213 := eq_true q213
              go_wp2_with (first | ((with_reducible refine gate_dst (N := 9) rfl ?_); refine box_event ?hg (N := 9) ?hd (cs := #[.int .i64 0, .bool false]) (t := 61) ?hr ?_; (case hd => rfl); (case hg => rfl); (case hr => first | (go_simp; done) | (go_simp; rfl)); intro gb214 hg w9 hbox hb; have n0_ := Aside0.mk (below_step (by repeat (first | (with_reducible first | exact HB.out | apply below_alloc | apply pw_below_drewN | apply below_drew1) | exact HB.out)) hb); have n1_ := Aside0.mk (hbox); have n2_ := Aside0.mk ((by rw [hg]; exact (below_size (by repeat (first | (with_reducible first | exact HB.out | apply below_alloc | apply pw_below_drewN | apply below_drew1) | exact HB.out))) : w.heap.size ≤ gb214)); have n3_ := Aside0.mk ((by rw [hg]; exact (below_size (by repeat (first | (with_reducible first | exact HB.out | apply below_alloc | apply pw_below_drewN | apply below_drew1) | exact HB.out))) : w.heap.size ≤ gb214)); clear HB; have HB := n0_; have BK214 := n1_; have GW214 := n2_; have GE214 := n3_; clear n0_ n1_ n2_ n3_; clear hb hbox hg; have hcz10_0 : w9.cell? ⟨gb214, 0, none⟩ = some (.int .i64 0) := (blk_cell BK214.out 0).trans rfl; have hcz10_1 : w9.cell? ⟨gb214, 1, none⟩ = some (.bool false) := (blk_cell BK214.out 1).trans rfl; have hfz10_0 := blk_frozen BK214.out 0; have hfz10_1 := blk_frozen BK214.out 1))
              go_roundg k1
              case measure => have := HK1.out; omega
              case rel => exact ⟨(x6_1), (ji8), (wrap64 (x13_1 + 1)), (by first | rfl | (simp; done) | (simp [*]; done)), (by first | rfl | (simp; done) | (simp only [← hji8] <;> (first | rfl | simp)) | (simp [*]; done)), (by first | rfl | (simp; done) | (simp [*]; done)), H', ⟨by have := HK1.out; omega⟩, ⟨by repeat (first | (with_reducible first | exact HB.out | apply below_alloc | apply pw_below_drewN | apply below_drew1 | refine below_set ?_ GE214.out) | exact HB.out)⟩⟩
            · replace c7 := Bool.eq_false_iff.mpr c7
              subst c7
              have H1 : (impl_open.l0 k1 (mx x6_1 ((rd_T61 l1 x13_1).f0)) x7_1 l1 (l1.length : Int) (wrap64 (x13_1 + 1))) = some (r1, r2) := by rw [if_neg (show ¬ (false = true) by decide)] at H; exact H
              clear H
              have H := H1
              clear H1
              obtain ⟨ji11, hji11⟩ : ∃ j_ : Int, (mx x6_1 ((rd_T61 l1 x13_1).f0)) = j_ := ⟨_, rfl⟩
              replace H : (impl_open.l0 k1 ji11 x7_1 l1 (l1.length : Int) (wrap64 (x13_1 + 1))) = some (r1, r2) := by first | (rw [hji11] at H; exact H) | (simp only [hji11] at H ⊢; exact H)
              have hji11_ : (if x6_1 < ((rd_T61 l1 x13_1).f0) then ((rd_T61 l1 x13_1).f0) else x6_1) = ji11 := hji11
              have H' := Aside0.mk H
              clear H
              have p213 : 0 ≤ (x13_1 : Int) := of_decide_eq_true (by first | (with_reducible assumption) | assumption)
              have q213 : x13_1 < (l1.length : Int) := of_decide_eq_true (by first | (with_reducible assumption) | assumption)
              obtain ⟨ad213, e213, hx213_0, hx213_1⟩ := at_T61 HR1.out x13_1 p213 q213
              (try rw [← Nbq6.out] at hx213_1)
              cases e213
              replace hx213_0 := (HB.out.cell (World.block_lt_of_cell? w _ hx213_0)).trans hx213_0
              replace hx213_1 := (HB.out.cell (World.block_lt_of_cell? w _ hx213_1)).trans hx213_1
              replace p213 := eq_true p213
              replace q213 := eq_true q213
              go_wp2_with (first | ((with_reducible refine gate_dst (N := 9) rfl ?_); refine box_event ?hg (N := 9) ?hd (cs := #[.int .i64 0, .bool false]) (t := 61) ?hr ?_; (case hd => rfl); (case hg => rfl); (case hr => first | (go_simp; done) | (go_simp; rfl)); intro gb214 hg w12 hbox hb; have n0_ := Aside0.mk (below_step (by repeat (first | (with_reducible first | exact HB.out | apply below_alloc | apply pw_below_drewN | apply below_drew1) | exact HB.out)) hb); have n1_ := Aside0.mk (hbox); have n2_ := Aside0.mk ((by rw [hg]; exact (below_size (by repeat (first | (with_reducible first | exact HB.out | apply below_alloc | apply pw_below_drewN | apply below_drew1) | exact HB.out))) : w.heap.size ≤ gb214)); have n3_ := Aside0.mk ((by rw [hg]; exact (below_size (by repeat (first | (with_reducible first | exact HB.out | apply below_alloc | apply pw_below_drewN | apply below_drew1) | exact HB.out))) : w.heap.size ≤ gb214)); clear HB; have HB := n0_; have BK214 := n1_; have GW214 := n2_; have GE214 := n3_; clear n0_ n1_ n2_ n3_; clear hb hbox hg; have hcz13_0 : w12.cell? ⟨gb214, 0, none⟩ = some (.int .i64 0) := (blk_cell BK214.out 0).trans rfl; have hcz13_1 : w12.cell? ⟨gb214, 1, none⟩ = some (.bool false) := (blk_cell BK214.out 1).trans rfl; have hfz13_0 := blk_frozen BK214.out 0; have hfz13_1 := blk_frozen BK214.out 1))
              go_roundg k1
              case measure => have := HK1.out; omega
              case rel => exact ⟨(ji11), (x7_1), (wrap64 (x13_1 + 1)), (by first | rfl | (simp; done) | (simp only [← hji11] <;> (first | rfl | simp)) | (simp [*]; done)), (by first | rfl | (simp; done) | (simp [*]; done)), (by first | rfl | (simp; done) | (simp [*]; done)), H', ⟨by have := HK1.out; omega⟩, ⟨by repeat (first | (with_reducible first | exact HB.out | apply below_alloc | apply pw_below_drewN | apply below_drew1 | refine below_set ?_ GE214.out) | exact HB.out)⟩⟩
          · rw [if_neg c5] at H
            exact absurd H (by simp)
        · rw [if_neg c4] at H
          exact absurd H (by simp)
      · rw [if_neg c3] at H
        have c3b0 : decide (x13_1 < (l1.length : Int)) = false := decide_eq_false c3
        clear c3
        simp only [Option.some.injEq, Prod.mk.injEq] at H
        obtain ⟨rfl, rfl⟩ := H
        go_wp2
        go_ret2
        exact ⟨by first | rfl | (simp [errW_none, errW_some] <;> rfl) | (simp [*, errW_none, errW_some] <;> rfl), by repeat (first | (with_reducible first | exact HB.out | apply below_alloc | apply pw_below_drewN | apply below_drew1) | exact HB.out)⟩

/-! behind impl_open -/
def opStep (a : Int × Int) (d : S61) : Int × Int := if d.f1 = true then (a.1, min a.2 (d.f0 - 1)) else (max a.1 d.f0, a.2)
theorem open_go2 (ds : List S61) (hd : ∀ d ∈ ds, 0 ≤ d.f0 ∧ d.f0 ≤ 1000) : ∀ (r k j : Nat) (lo hi : Int), ds.length - j = r → j ≤ ds.length → ds.length ≤ 1000 → r < k → impl_open.l0 k lo hi ds (ds.length : Int) (j : Int) = some ((ds.drop j).foldl opStep (lo, hi))
  | 0, k, j, lo, hi, hr, hj, hl, hk => by
    obtain ⟨k, rfl⟩ : ∃ m, k = m + 1 := ⟨k - 1, by omega⟩
    rw [impl_open.l0, if_neg (by omega), List.drop_of_length_le (by omega)]
    rfl
  | r + 1, k, j, lo, hi, hr, hj, hl, hk => by
    obtain ⟨k, rfl⟩ : ∃ m, k = m + 1 := ⟨k - 1, by omega⟩
    have hlt : j < ds.length := by omega
    have hx := hd _ (List.getElem_mem hlt)
    have hrd : rd_T61 ds (j : Int) = ds[j] := by
      unfold rd_T61
      rw [Int.toNat_natCast, List.getD_eq_getElem?_getD, List.getElem?_eq_getElem hlt]; rfl
    have e1 : wrap64 (ds[j].f0 - 1) = ds[j].f0 - 1 := by unfold wrap64; omega
    have e2 : wrap64 ((j : Int) + 1) = ((j + 1 : Nat) : Int) := by clear e1; unfold wrap64; omega
    have hmn : mn hi (ds[j].f0 - 1) = min hi (ds[j].f0 - 1) := by clear e1 e2; unfold mn; split <;> omega
    have hmx : mx lo ds[j].f0 = max lo ds[j].f0 := by clear e1 e2 hmn; unfold mx; split <;> omega
    rw [impl_open.l0, if_pos (by clear e1 e2 hmn hmx; omega), if_pos (by clear e1 e2 hmn hmx; omega), if_pos (by clear e1 e2 hmn hmx; omega), hrd, e1, e2, hmn, hmx, List.drop_eq_getElem_cons hlt, List.foldl_cons, open_go2 ds hd r k (j + 1) _ _ (by clear e1 e2 hmn hmx; omega) (by clear e1 e2 hmn hmx; omega) hl (by clear e1 e2 hmn hmx; omega), open_go2 ds hd r k (j + 1) _ _ (by clear e1 e2 hmn hmx; omega) (by clear e1 e2 hmn hmx; omega) hl (by clear e1 e2 hmn hmx; omega)]
    have hst : opStep (lo, hi) ds[j] = if ds[j].f1 = true then (lo, min hi (ds[j].f0 - 1)) else (max lo ds[j].f0, hi) := rfl
    rw [hst]
    by_cases h : ds[j].f1 = true
    · rw [if_pos h, if_pos h]
    · rw [if_neg h, if_neg h]
theorem open_is2 (n : Int) (ds : List S61) (hd : ∀ d ∈ ds, 0 ≤ d.f0 ∧ d.f0 ≤ 1000) (hl : ds.length ≤ 1000) (k : Nat) (hk : ds.length < k) : impl_open.f k n ds = some (ds.foldl opStep (0, n)) := by
  unfold impl_open.f
  have := open_go2 ds hd ds.length k 0 0 n (by omega) (by omega) hl hk
  simpa using this

/-! behind impl_BrokenEggs -/
-- LIB Play
theorem playF_acc (F : Nat → Int → Int) (b : Int) : ∀ (k e : Nat) (n low : Int) (acc : List S61), playF F b k e n low acc = acc ++ playF F b k e n low []
  | 0, _, _, _, acc => by simp [playF]
  | k + 1, e, n, low, acc => by
    rw [playF, playF]
    by_cases hn : 0 < n
    · rw [if_pos hn, if_pos hn]
      by_cases h : low + F e n > b
      · rw [if_pos h, if_pos h, playF_acc F b k (e - 1) _ low (acc ++ _), playF_acc F b k (e - 1) _ low ([] ++ _), List.append_assoc]; rfl
      · rw [if_neg h, if_neg h, playF_acc F b k e _ _ (acc ++ _), playF_acc F b k e _ _ ([] ++ _), List.append_assoc]; rfl
    · rw [if_neg hn, if_neg hn, List.append_nil]
theorem play_open (b : Int) : ∀ (k e : Nat) (n low : Int), 0 ≤ n → n ≤ k → low ≤ b → b ≤ low + n → (playF bestF b k e n low []).foldl opStep (low, low + n) = (b, b)
  | 0, _, n, low, h0, h1, h2, h3 => by
    have hn : n = 0 := by omega
    subst hn
    have hb : b = low := by omega
    subst hb
    simp [playF]
  | k + 1, e, n, low, h0, h1, h2, h3 => by
    rw [playF]
    by_cases hn : 0 < n
    · have hr := bestF_range e n (by omega)
      rw [if_pos hn]
      generalize bestF e n = f at hr ⊢
      by_cases h : low + f > b
      · rw [if_pos h, playF_acc, List.foldl_append]
        have e1 : [(⟨low + f, true⟩ : S61)].foldl opStep (low, low + n) = (low, low + (f - 1)) := by
          simp only [List.foldl_cons, List.foldl_nil, opStep, if_true]
          congr 1
          omega
        rw [List.nil_append, e1]
        exact play_open b k (e - 1) (f - 1) low (by omega) (by omega) h2 (by omega)
      · rw [if_neg h, playF_acc, List.foldl_append]
        have e1 : [(⟨low + f, false⟩ : S61)].foldl opStep (low, low + n) = (low + f, low + f + (n - f)) := by
          simp only [List.foldl_cons, List.foldl_nil, opStep]
          rw [if_neg (by decide)]
          congr 1 <;> omega
        rw [List.nil_append, e1]
        exact play_open b k e (n - f) (low + f) (by omega) (by omega) (by omega) (by omega)
    · have hn0 : n = 0 := by omega
      subst hn0
      have hb : b = low := by omega
      subst hb
      rw [if_neg hn]
      simp
theorem play_in (b : Int) : ∀ (k e : Nat) (n low : Int), 0 ≤ n → ∀ d ∈ playF bestF b k e n low [], low + 1 ≤ d.f0 ∧ d.f0 ≤ low + n
  | 0, _, n, low, h0, d, hd => by simp [playF] at hd
  | k + 1, e, n, low, h0, d, hd => by
    rw [playF] at hd
    by_cases hn : 0 < n
    · have hr := bestF_range e n (by omega)
      rw [if_pos hn] at hd
      generalize bestF e n = f at hr hd
      by_cases h : low + f > b
      · rw [if_pos h, playF_acc] at hd
        rcases List.mem_append.1 hd with h1 | h1
        · simp at h1; subst h1; dsimp only; omega
        · have := play_in b k (e - 1) (f - 1) low (by omega) d h1; omega
      · rw [if_neg h, playF_acc] at hd
        rcases List.mem_append.1 hd with h1 | h1
        · simp at h1; subst h1; dsimp only; omega
        · have := play_in b k e (n - f) (low + f) (by omega) d h1; omega
    · rw [if_neg hn] at hd; simp at hd
theorem play_brk (b : Int) : ∀ (k e : Nat) (n low : Int), 1 ≤ e → 0 ≤ n → n ≤ 1000 → cntE (playF bestF b k e n low []) ≤ e
  | 0, e, n, low, h1, h0, hn => by simp [playF, cntE]
  | k + 1, e, n, low, h1, h0, h2 => by
    rw [playF]
    by_cases hn : 0 < n
    · have hr := bestF_range e n (by omega)
      rw [if_pos hn]
      by_cases h : low + bestF e n > b
      · rw [if_pos h, playF_acc]
        unfold cntE
        rw [List.countP_append]
        by_cases he : e = 1
        · subst he
          rw [bestF_one n (by omega) h2, show (1 : Int) - 1 = 0 from rfl, playF_zero]
          simp
        · have := play_brk b k (e - 1) (bestF e n - 1) low (by omega) (by omega) (by omega)
          unfold cntE at this
          simp only [List.nil_append, List.countP_singleton, if_true]
          omega
      · rw [if_neg h, playF_acc]
        unfold cntE
        rw [List.countP_append]
        have := play_brk b k e (n - bestF e n) (low + bestF e n) h1 (by omega) (by omega)
        unfold cntE at this
        simp only [List.nil_append, List.countP_singleton]
        rw [if_neg (by decide)]
        omega
    · rw [if_neg hn]; simp [cntE]
theorem plN_zero (F : Nat → Int → Int) (k e : Nat) (b : Int) : plN F k e 0 b = 0 := by
  cases k with
  | zero => rfl
  | succ k => rw [plN, if_neg (by omega)]
theorem play_few : ∀ (k e : Nat) (n b : Int), 1 ≤ e → 0 ≤ n → n ≤ 1000 → plN bestF k e n b ≤ few e n
  | 0, _, _, _, _, _, _ => Nat.zero_le _
  | k + 1, e, n, b, h1, h0, h2 => by
    rw [plN]
    by_cases hn : 0 < n
    · have hr := bestF_range e n (by omega)
      have hp := few_pos e n (by omega)
      have hl := few_le e n
      obtain ⟨t, ht⟩ : ∃ t, few e n = t + 1 := ⟨few e n - 1, by omega⟩
      have hb : bestF e n = max 1 (n - rch t e) := by unfold bestF; rw [ht]; rfl
      have hreach : n ≤ rch (t + 1) e := by
        by_cases hf : t + 1 < 1000
        · exact (few_le_iff e n (t + 1) hf).1 (by omega)
        · have := rch_lin (t + 1) e h1 (by omega); omega
      rw [if_pos hn, ht]
      by_cases h : bestF e n > b
      · rw [if_pos h]
        by_cases he : e = 1
        · subst he
          rw [bestF_one n (by omega) h2, show (1 : Int) - 1 = 0 from rfl, plN_zero]
          omega
        · have hih := play_few k (e - 1) (bestF e n - 1) b (by omega) (by omega) (by omega)
          obtain ⟨e', rfl⟩ : ∃ e', e = e' + 1 := ⟨e - 1, by omega⟩
          have hx := (few_le_iff (e' + 1 - 1) (bestF (e' + 1) n - 1) t (by omega)).2 (by
            rw [hb]
            have hz : rch (t + 1) (e' + 1) = min 1000000001 (rch t e' + rch t (e' + 1) + 1) := rfl
            have := (rch_range t e').1
            rw [Nat.add_sub_cancel]
            omega)
          omega
      · rw [if_neg h]
        have hih := play_few k e (n - bestF e n) (b - bestF e n) h1 (by omega) (by omega)
        have hx := (few_le_iff e (n - bestF e n) t (by omega)).2 (by omega)
        omega
    · rw [if_neg hn]; exact Nat.zero_le _

/-! ### impl_Drop_63: function 63, a contract of our own -/
set_option maxHeartbeats 2000000 in
theorem indexFunc_drop (g : Nat) (lb : Array Value) (p : S61 → Bool) (A0 : Option Addr) (c0 : Nat) (l0 : List S61) (w : World) (hr0 : Kd.C k61 w A0 l0.length l0)
    (hl : l0.length ≤ 1000000000) (eg : ∀ args w, (callFunc g args).run Try.prog w = .ok (.enter g args) w) (hp : Tells g lb (fun x : S61 => .agg #[.int .i64 x.f0, .bool x.f1]) p w) :
    Calls Try.prog 63 #[.slice A0 l0.length c0, .func (.func g) #[] lb] w fun e w' => e = .returned (.int .i64 (idxOf p l0)) ∧ Below w.heap.size w w' := by
  have hu := Try.underlying61
  have HR := Aside0.mk hr0
  have HP := Aside0.mk hp
  have EG := Aside0.mk eg
  clear hr0 hp eg
  generalize hn : l0.length = n at hl ⊢
  have HN := Aside0.mk hn
  clear hn
  go_enter Try.func63, Try.ntmps63
  go_wp2
  go_loopg [5, 8] n (fun gg _ s8 wr => ∃ kk : Nat, kk ≤ n ∧ n - kk ≤ gg ∧ s8 = .int .i64 kk ∧ Aside0 (Below w.heap.size w wr) ∧ Aside0 (∀ j, j < kk → p (l0.getD j z61) = false))
  case atStart => exact ⟨0, Nat.zero_le _, by omega, rfl, ⟨Below.refl _ w⟩, ⟨fun j hj => absurd hj (Nat.not_lt_zero _)⟩⟩
  case round =>
    obtain ⟨kk, hkk, hg, rfl, BW, AA⟩ := hrel
    by_cases hlt : kk < n
    · have hltz : (kk : Int) < (n : Int) := by omega
      obtain ⟨ad, e, hx0, hx1⟩ := at_T61 (HN.out ▸ HR.out) (kk : Int) (by omega) hltz
      cases e
      replace hx0 := (BW.out.cell (World.block_lt_of_cell? w _ hx0)).trans hx0
      replace hx1 := (BW.out.cell (World.block_lt_of_cell? w _ hx1)).trans hx1
      rw [Int.toNat_natCast] at hx0 hx1
      have hcall := HP.out wr (rd_T61 l0 kk) BW.out
      have hy : p (rd_T61 l0 kk) = p (l0.getD kk z61) := by simp [rd_T61]
      have HY := Aside0.mk hy
      clear hy
      generalize hz : rd_T61 l0 kk = y at hx0 hx1 hcall HY
      clear hz
      cases hq : p y with
      | true =>
        rw [hq] at hcall
        have HQ := Aside0.mk hq
        clear hq
        have HCALL := Aside0.mk hcall
        clear hcall
        go_wp2_with ((with_reducible refine gate_dst (N := 16) rfl ?_); refine goesV_ (some 16) rfl rfl EG.out #[.agg #[.int .i64 y.f0, .bool y.f1]] rfl rfl (by (try simp only [List.map_toArray, List.map_cons, List.map_nil]); first | done | rfl) ?_; refine HCALL.out.mono ?_; rintro e w' ⟨rfl, hb'⟩; refine ⟨_, rfl, ?_⟩)
        go_ret
        refine ⟨?_, hb'⟩
        rw [idxOf_hit p l0 z61 kk (by have := HN.out; omega) (HY.out ▸ HQ.out) AA.out]
        rfl
      | false =>
        rw [hq] at hcall
        have HQ := Aside0.mk hq
        clear hq
        have HCALL := Aside0.mk hcall
        clear hcall
        go_wp2_with ((with_reducible refine gate_dst (N := 16) rfl ?_); refine goesV_ (some 16) rfl rfl EG.out #[.agg #[.int .i64 y.f0, .bool y.f1]] rfl rfl (by (try simp only [List.map_toArray, List.map_cons, List.map_nil]); first | done | rfl) ?_; refine HCALL.out.mono ?_; rintro e w' ⟨rfl, hb'⟩; refine ⟨_, rfl, ?_⟩)
        clear hx0 hx1
        go_roundg (n - (kk + 1))
        case measure => omega
        case rel =>
          refine ⟨kk + 1, by omega, by omega, by go_num, ⟨hb'⟩, ⟨fun j hj => ?_⟩⟩
          by_cases e : j = kk
          · subst e; exact HY.out ▸ HQ.out
          · exact AA.out j (by omega)
    · have hltz : ¬ (kk : Int) < (n : Int) := by omega
      have hkn : kk = n := by omega
      subst hkn
      go_wp2
      go_ret
      refine ⟨?_, BW.out⟩
      rw [idxOf_miss p l0 z61 (by rw [HN.out]; exact AA.out)]
      rfl

/-! ### impl_Drop_60: function 60, a contract of our own -/
set_option maxHeartbeats 2000000 in
theorem containsFunc_drop (g : Nat) (lb : Array Value) (p : S61 → Bool) (A0 : Option Addr) (c0 : Nat) (l0 : List S61) (w : World) (hr0 : Kd.C k61 w A0 l0.length l0)
    (hl : l0.length ≤ 1000000000) (eg : ∀ args w, (callFunc g args).run Try.prog w = .ok (.enter g args) w) (hp : Tells g lb (fun x : S61 => .agg #[.int .i64 x.f0, .bool x.f1]) p w) :
    Calls Try.prog 60 #[.slice A0 l0.length c0, .func (.func g) #[] lb] w fun e w' => e = .returned (.bool (l0.any p)) ∧ Below w.heap.size w w' := by
  rw [← idxOf_any]
  have HC := indexFunc_drop g lb p A0 c0 l0 w hr0 hl eg hp
  generalize idxOf p l0 = q at HC ⊢
  clear hr0 hp eg
  go_enter Try.func60, Try.ntmps60
  go_wp2_with (go_at_call 63; refine HC.mono ?_; rintro e w' ⟨rfl, hb'⟩)
  go_ret
  exact ⟨rfl, hb'⟩

/-! ### impl_AreDrops: function 47, a contract of our own -/
set_option maxHeartbeats 2000000 in
theorem areDrops_1 (n : Int) (gb : Nat) (w : World) (hbox : w.heap[gb]? = some (.cells #[.int .i64 n] 3 (0, 0))) : Tells 61 #[.pointer (some ⟨gb, 0, none⟩)] (fun x : S61 => .agg #[.int .i64 x.f0, .bool x.f1]) (fun x => outIn 1 n x.f0) w := fun W x hb => by
  have hu := Try.underlying61
  have HB := Aside0.mk hb
  have hcn : W.cell? ⟨gb, 0, none⟩ = some (.int .i64 n) := (hb.cell (blk_lt hbox)).trans ((blk_cell hbox 0).trans rfl)
  clear hb hbox
  obtain ⟨x0, x1⟩ := x
  by_cases h1 : x0 ≥ 1 <;> by_cases h2 : x0 ≤ n
  all_goals
    have HC : Aside0 (∀ W, Calls Try.prog 62 #[.int .i64 x0, .int .i64 1, .int .i64 n] W fun e w' => e = .returned (.bool (decide (1 ≤ x0) && decide (x0 ≤ n))) ∧ W = w') := ⟨fun W => impl_within.calls0 x0 1 n _ W (by simp [impl_within.f, h1, h2])⟩
    go_enter Try.func61, Try.ntmps61
    go_wp2_with (first
      | ((with_reducible refine gate_dst (N := 2) rfl ?_); refine box_event ?hg (N := 2) ?hd (cs := #[.int .i64 x0, .bool x1]) (t := 61) ?hr ?_; (case hd => rfl); (case hg => rfl); (case hr => first | (go_simp; done) | (go_simp; rfl)); intro g2 hg w5 hbox hb; have hc0 : w5.cell? ⟨g2, 0, none⟩ = some (.int .i64 x0) := (blk_cell hbox 0).trans rfl; have hcm : w5.cell? ⟨gb, 0, none⟩ = some (.int .i64 n) := (hb.cell (World.block_lt_of_cell? W _ hcn)).trans hcn; have n0_ := Aside0.mk (below_step HB.out hb); clear HB hb hbox hg; have HB := n0_; clear n0_)
      | (go_at_call 62; refine (HC.out _).mono ?_; rintro e w' ⟨rfl, rfl⟩))
    go_ret
    exact ⟨by simp [outIn] <;> omega, HB.out⟩
def impl_AreDrops.f (a0 : Int) (l1 : List S61) : Option Bool := if l1.length ≤ 1000000000 then some ((decide (0 ≤ a0) && decide (a0 ≤ 1000)) && decide (l1.length ≤ 1000) && l1.all (fun d => decide (1 ≤ d.f0) && decide (d.f0 ≤ a0))) else none
set_option maxHeartbeats 2000000 in
theorem impl_AreDrops.calls (a0 : Int) (A1 : Option Addr) (c1 : Nat) (l1 : List S61) (r : Bool) (w : World) (hr1 : Kd.C k61 w A1 l1.length l1) (hc1 : l1.length ≤ c1) (h : impl_AreDrops.f a0 l1 = some r) :
    Calls Try.prog 47 #[.int .i64 a0, .slice A1 l1.length c1] w fun e w' => e = .returned (.bool r) ∧ Below w.heap.size w w' := by
  unfold impl_AreDrops.f at h
  by_cases hl : l1.length ≤ 1000000000
  case neg => rw [if_neg hl] at h; exact absurd h (by simp)
  rw [if_pos hl] at h
  have HH := Aside0.mk (Option.some.inj h)
  clear h
  have HL := Aside0.mk hl
  have HR := Aside0.mk hr1
  clear hr1 hc1
  have HB := Aside0.mk (Below.refl w.heap.size w)
  have HF : Aside0 (∀ W, Calls Try.prog 55 #[.int .i64 a0] W fun e w' => e = .returned (.bool (decide (0 ≤ a0) && decide (a0 ≤ 1000))) ∧ Drawn0 W w') := ⟨fun W => impl_isFloors.calls a0 _ W (impl_isFloors_is a0)⟩
  by_cases h1 : (decide (0 ≤ a0) && decide (a0 ≤ 1000)) = true
  · rw [h1] at HF
    by_cases h2 : l1.length ≤ 1000
    · have h2z : (l1.length : Int) ≤ 1000 := by omega
      have HI : Aside0 (∀ (W : World) (gb : Nat), Below w.heap.size w W → W.heap[gb]? = some (.cells #[.int .i64 a0] 3 (0, 0)) → Calls Try.prog 60 #[.slice A1 l1.length c1, .func (.func 61) #[] #[.pointer (some ⟨gb, 0, none⟩)]] W fun e w' => e = .returned (.bool (l1.any (fun x => outIn 1 a0 x.f0))) ∧ Below W.heap.size W w') :=
        ⟨fun W gb hb hbox => containsFunc_drop 61 _ _ A1 c1 l1 W (Kd.C_below HR.out hb) HL.out (enters_ Try.func61 (by kernel_rfl) rfl) (areDrops_1 a0 gb W hbox)⟩
      have HFIN : Aside0 ((!(l1.any (fun x => outIn 1 a0 x.f0))) = r) := ⟨by
        rw [← HH.out, h1, decide_eq_true h2, Bool.true_and, Bool.true_and, List.all_eq_not_any_not]
        rfl⟩
      clear h1 h2 hl
      generalize (l1.any (fun x => outIn 1 a0 x.f0)) = b at HI HFIN
      go_enter Try.func47, Try.ntmps47
      go_wp2_with (first
        | ((with_reducible refine gate_dst (N := 2) rfl ?_); refine box_event ?hg (N := 2) ?hd (cs := #[.int .i64 a0]) (t := 3) ?hr ?_; (case hd => rfl); (case hg => rfl); (case hr => first | (go_simp; done) | (go_simp; rfl)); intro gb hg w5 hbox hb; have BK := Aside0.mk hbox; have hc0 : w5.cell? ⟨gb, 0, none⟩ = some (.int .i64 a0) := (blk_cell hbox 0).trans rfl; have n0_ := Aside0.mk (below_step HB.out hb); clear HB hb hbox hg; have HB := n0_; clear n0_)
        | (go_at_call 55; refine (HF.out _).mono ?_; rintro e w' ⟨rfl, ⟨nd, rfl⟩⟩)
        | (go_at_call 60; refine (HI.out _ _ (pw_below_drewN HB.out _) (blk_drewN BK.out _)).mono ?_; rintro e w' ⟨rfl, hb⟩; have n0_ := Aside0.mk (below_step (pw_below_drewN HB.out _) hb); clear HB hb; have HB := n0_; clear n0_))
      go_ret
      exact ⟨by rw [← HFIN.out]; rfl, HB.out⟩
    · have h2z : ((l1.length : Int) ≤ 1000) = False := by rw [eq_iff_iff]; constructor <;> intro h <;> first | omega | exact h.elim
      have HFIN : Aside0 (false = r) := ⟨by rw [← HH.out, decide_eq_false h2]; simp⟩
      clear h1 h2 hl
      go_enter Try.func47, Try.ntmps47
      go_wp2_with (first
        | ((with_reducible refine gate_dst (N := 2) rfl ?_); refine box_event ?hg (N := 2) ?hd (cs := #[.int .i64 a0]) (t := 3) ?hr ?_; (case hd => rfl); (case hg => rfl); (case hr => first | (go_simp; done) | (go_simp; rfl)); intro gb hg w5 hbox hb; have hc0 : w5.cell? ⟨gb, 0, none⟩ = some (.int .i64 a0) := (blk_cell hbox 0).trans rfl; have n0_ := Aside0.mk (below_step HB.out hb); clear HB hb hbox hg; have HB := n0_; clear n0_)
        | (go_at_call 55; refine (HF.out _).mono ?_; rintro e w' ⟨rfl, ⟨nd, rfl⟩⟩))
      go_ret
      exact ⟨by rw [← HFIN.out]; rfl, pw_below_drewN HB.out _⟩
  · have h1' := Bool.eq_false_iff.mpr h1
    rw [h1'] at HF
    have HFIN : Aside0 (false = r) := ⟨by rw [← HH.out, h1']; simp⟩
    clear h1 h1' hl
    go_enter Try.func47, Try.ntmps47
    go_wp2_with (first
      | ((with_reducible refine gate_dst (N := 2) rfl ?_); refine box_event ?hg (N := 2) ?hd (cs := #[.int .i64 a0]) (t := 3) ?hr ?_; (case hd => rfl); (case hg => rfl); (case hr => first | (go_simp; done) | (go_simp; rfl)); intro gb hg w5 hbox hb; have hc0 : w5.cell? ⟨gb, 0, none⟩ = some (.int .i64 a0) := (blk_cell hbox 0).trans rfl; have n0_ := Aside0.mk (below_step HB.out hb); clear HB hb hbox hg; have HB := n0_; clear n0_)
      | (go_at_call 55; refine (HF.out _).mono ?_; rintro e w' ⟨rfl, ⟨nd, rfl⟩⟩))
    go_ret
    exact ⟨by rw [← HFIN.out]; rfl, pw_below_drewN HB.out _⟩


/-! ### impl_LeftOpen: function 18 -/
def impl_LeftOpen.f (k : Nat) (a0 : Int) (l1 : List (S61)) : Option (Int × Int × Bool) := (impl_AreDrops.f a0 l1).bind fun t215 => (if t215 = true then ((impl_open.f k a0 l1).bind fun bt216 => (if bt216.1 > bt216.2 then (some (0, 0, false)) else (some (bt216.1, bt216.2, true)))) else (some (0, 0, false)))
theorem impl_LeftOpen.mono : ∀ a0 a1 k, LeO (impl_LeftOpen.f k a0 a1) (impl_LeftOpen.f (k + 1) a0 a1) := by
  intro a0 a1 k
  unfold impl_LeftOpen.f
  repeat' first
      | (with_reducible exact impl_open.mono _ _ _)
      | (with_reducible exact LeO.refl _)
      | (with_reducible exact LeO.none _)
      | (with_reducible refine LeO.ite ?_ ?_)
      | (with_reducible refine LeO.bind ?_ (fun _ => ?_))
      | exact impl_open.mono _ _ _
      | exact LeO.none _
      | refine LeO.ite ?_ ?_
      | refine LeO.bind ?_ (fun _ => ?_)
set_option maxHeartbeats 8000000 in
set_option maxRecDepth 100000 in
theorem impl_LeftOpen.calls (k : Nat) (a0 : Int) (A1 : Option Addr) (c1 : Nat) (l1 : List (S61)) (r1 : Int) (r2 : Int) (r3 : Bool) (w : World) (hr1 : Kd.C k61 w A1 l1.length l1) (hc1 : l1.length ≤ c1) (h : impl_LeftOpen.f k a0 l1 = some (r1, r2, r3)) :
    Calls Try.prog 18 #[.int .i64 a0, .slice A1 l1.length c1] w fun e w' => e = .returned (.tuple #[.int .i64 r1, .int .i64 r2, .bool r3]) ∧ Below w.heap.size w w' := by
  have HR1 := Aside0.mk hr1
  have HC1 := Aside0.mk hc1
  clear hr1 hc1
  have HB := Aside0.mk (Below.refl w.heap.size w)
  have H : ((impl_AreDrops.f a0 l1).bind fun t215 => (if t215 = true then ((impl_open.f k a0 l1).bind fun bt216 => (if bt216.1 > bt216.2 then (some (0, 0, false)) else (some (bt216.1, bt216.2, true)))) else (some (0, 0, false)))) = some (r1, r2, r3) := h
  clear h
  replace H := Option.bind_eq_some_iff.mp H
  obtain ⟨t215, A30, H⟩ := H
  replace H : (if t215 = true then ((impl_open.f k a0 l1).bind fun bt216 => (if bt216.1 > bt216.2 then (some (0, 0, false)) else (some (bt216.1, bt216.2, true)))) else (some (0, 0, false))) = some (r1, r2, r3) := H
  have A3 := Aside0.mk A30
  clear A30
  by_cases c4 : t215 = true
  · subst c4
    have H1 : ((impl_open.f k a0 l1).bind fun bt216 => (if bt216.1 > bt216.2 then (some (0, 0, false)) else (some (bt216.1, bt216.2, true)))) = some (r1, r2, r3) := by rw [if_pos rfl] at H; exact H
    clear H
    have H := H1
    clear H1
    replace H := Option.bind_eq_some_iff.mp H
    obtain ⟨⟨t216, t217⟩, A50, H⟩ := H
    replace H : (if t216 > t217 then (some (0, 0, false)) else (some (t216, t217, true))) = some (r1, r2, r3) := H
    have A5 := Aside0.mk A50
    clear A50
    by_cases c6 : t216 > t217
    · rw [if_pos c6] at H
      have c6b0 : decide (t217 < t216) = true := decide_eq_true c6
      clear c6
      simp only [Option.some.injEq, Prod.mk.injEq] at H
      obtain ⟨rfl, rfl, rfl⟩ := H
      go_enter Try.func18, Try.ntmps18
      go_wp2_with (first | ((with_reducible refine gate_callee (f := 47) rfl ?_); refine goesL_ (some 11) rfl rfl Try.func47 (by kernel_rfl) rfl #[.int .i64 a0, .slice A1 l1.length c1] rfl (by (try simp only [List.map_toArray, List.map_cons, List.map_nil]); first | done | rfl | (simp only [List.length_drop, List.length_take]; rfl)) ?_; (with_reducible refine (impl_AreDrops.calls a0 _ _ l1 true _ ?side1 ?side2 A3.out).mono ?_); (case side1 => repeat (first | exact HR1.out | (with_reducible refine Kd.C_alloc ?_ _) | (with_reducible refine Kd.C_drewN ?_ _) | (with_reducible refine Kd.C_drew ?_))); (case side2 => exact HC1.out); rintro e w7 ⟨rfl, hb⟩; refine ⟨_, rfl, ?_⟩; have n0_ := Aside0.mk (below_step (by repeat (first | (with_reducible first | exact HB.out | apply below_alloc | apply pw_below_drewN | apply below_drew1) | exact HB.out)) hb); clear HB; have HB := n0_; clear n0_; (try clear hb); (try clear hb2); (try clear hk); (try clear hi)) | ((with_reducible refine gate_callee (f := 48) rfl ?_); refine goesL_ (some 16) rfl rfl Try.func48 (by kernel_rfl) rfl #[.int .i64 a0, .slice A1 l1.length c1] rfl (by (try simp only [List.map_toArray, List.map_cons, List.map_nil]); first | done | rfl | (simp only [List.length_drop, List.length_take]; rfl)) ?_; (with_reducible refine (impl_open.calls k a0 _ _ l1 t216 t217 _ ?side1 ?side2 A5.out).mono ?_); (case side1 => repeat (first | exact HR1.out | exact (Kd.C_below HR1.out HB.out) | (with_reducible refine Kd.C_alloc ?_ _) | (with_reducible refine Kd.C_drewN ?_ _) | (with_reducible refine Kd.C_drew ?_))); (case side2 => exact HC1.out); rintro e w8 ⟨rfl, hb⟩; refine ⟨_, rfl, ?_⟩; have n0_ := Aside0.mk (below_step (by repeat (first | (with_reducible first | exact HB.out | apply below_alloc | apply pw_below_drewN | apply below_drew1) | exact HB.out)) hb); clear HB; have HB := n0_; clear n0_; (try clear hb); (try clear hb2); (try clear hk); (try clear hi)))
      go_ret3
      exact ⟨by first | rfl | (simp [errW_none, errW_some] <;> rfl) | (simp [*, errW_none, errW_some] <;> rfl), by repeat (first | (with_reducible first | exact HB.out | apply below_alloc | apply pw_below_drewN | apply below_drew1) | exact HB.out)⟩
    · rw [if_neg c6] at H
      have c6b0 : decide (t217 < t216) = false := decide_eq_false c6
      clear c6
      simp only [Option.some.injEq, Prod.mk.injEq] at H
      obtain ⟨rfl, rfl, rfl⟩ := H
      go_enter Try.func18, Try.ntmps18
      go_wp2_with (first | ((with_reducible refine gate_callee (f := 47) rfl ?_); refine goesL_ (some 11) rfl rfl Try.func47 (by kernel_rfl) rfl #[.int .i64 a0, .slice A1 l1.length c1] rfl (by (try simp only [List.map_toArray, List.map_cons, List.map_nil]); first | done | rfl | (simp only [List.length_drop, List.length_take]; rfl)) ?_; (with_reducible refine (impl_AreDrops.calls a0 _ _ l1 true _ ?side1 ?side2 A3.out).mono ?_); (case side1 => repeat (first | exact HR1.out | (with_reducible refine Kd.C_alloc ?_ _) | (with_reducible refine Kd.C_drewN ?_ _) | (with_reducible refine Kd.C_drew ?_))); (case side2 => exact HC1.out); rintro e w9 ⟨rfl, hb⟩; refine ⟨_, rfl, ?_⟩; have n0_ := Aside0.mk (below_step (by repeat (first | (with_reducible first | exact HB.out | apply below_alloc | apply pw_below_drewN | apply below_drew1) | exact HB.out)) hb); clear HB; have HB := n0_; clear n0_; (try clear hb); (try clear hb2); (try clear hk); (try clear hi)) | ((with_reducible refine gate_callee (f := 48) rfl ?_); refine goesL_ (some 16) rfl rfl Try.func48 (by kernel_rfl) rfl #[.int .i64 a0, .slice A1 l1.length c1] rfl (by (try simp only [List.map_toArray, List.map_cons, List.map_nil]); first | done | rfl | (simp only [List.length_drop, List.length_take]; rfl)) ?_; (with_reducible refine (impl_open.calls k a0 _ _ l1 t216 t217 _ ?side1 ?side2 A5.out).mono ?_); (case side1 => repeat (first | exact HR1.out | exact (Kd.C_below HR1.out HB.out) | (with_reducible refine Kd.C_alloc ?_ _) | (with_reducible refine Kd.C_drewN ?_ _) | (with_reducible refine Kd.C_drew ?_))); (case side2 => exact HC1.out); rintro e w10 ⟨rfl, hb⟩; refine ⟨_, rfl, ?_⟩; have n0_ := Aside0.mk (below_step (by repeat (first | (with_reducible first | exact HB.out | apply below_alloc | apply pw_below_drewN | apply below_drew1) | exact HB.out)) hb); clear HB; have HB := n0_; clear n0_; (try clear hb); (try clear hb2); (try clear hk); (try clear hi)))
      go_ret3
      exact ⟨by first | rfl | (simp [errW_none, errW_some] <;> rfl) | (simp [*, errW_none, errW_some] <;> rfl), by repeat (first | (with_reducible first | exact HB.out | apply below_alloc | apply pw_below_drewN | apply below_drew1) | exact HB.out)⟩
  · replace c4 := Bool.eq_false_iff.mpr c4
    subst c4
    have H1 : (some (0, 0, false)) = some (r1, r2, r3) := by rw [if_neg (show ¬ (false = true) by decide)] at H; exact H
    clear H
    have H := H1
    clear H1
    simp only [Option.some.injEq, Prod.mk.injEq] at H
    obtain ⟨rfl, rfl, rfl⟩ := H
    go_enter Try.func18, Try.ntmps18
    go_wp2_with (first | ((with_reducible refine gate_callee (f := 47) rfl ?_); refine goesL_ (some 11) rfl rfl Try.func47 (by kernel_rfl) rfl #[.int .i64 a0, .slice A1 l1.length c1] rfl (by (try simp only [List.map_toArray, List.map_cons, List.map_nil]); first | done | rfl | (simp only [List.length_drop, List.length_take]; rfl)) ?_; (with_reducible refine (impl_AreDrops.calls a0 _ _ l1 false _ ?side1 ?side2 A3.out).mono ?_); (case side1 => repeat (first | exact HR1.out | (with_reducible refine Kd.C_alloc ?_ _) | (with_reducible refine Kd.C_drewN ?_ _) | (with_reducible refine Kd.C_drew ?_))); (case side2 => exact HC1.out); rintro e w11 ⟨rfl, hb⟩; refine ⟨_, rfl, ?_⟩; have n0_ := Aside0.mk (below_step (by repeat (first | (with_reducible first | exact HB.out | apply below_alloc | apply pw_below_drewN | apply below_drew1) | exact HB.out)) hb); clear HB; have HB := n0_; clear n0_; (try clear hb); (try clear hb2); (try clear hk); (try clear hi)))
    go_ret3
    exact ⟨by first | rfl | (simp [errW_none, errW_some] <;> rfl) | (simp [*, errW_none, errW_some] <;> rfl), by repeat (first | (with_reducible first | exact HB.out | apply below_alloc | apply pw_below_drewN | apply below_drew1) | exact HB.out)⟩

end Go.Proofs.Ytfelkkonjbhkjaa.PrintA
