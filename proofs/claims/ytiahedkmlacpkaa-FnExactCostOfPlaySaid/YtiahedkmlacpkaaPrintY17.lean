-- written by this session's own driver (wip/gen.py) with the kit's print and contracts of our own
import Derived.Test.YtiahedkmlacpkaaPrintY0
import Derived.Test.YtiahedkmlacpkaaPrintY1
import Derived.Test.YtiahedkmlacpkaaPrintY12
import Derived.Test.YtiahedkmlacpkaaPrintY13
import Derived.Test.YtiahedkmlacpkaaPrintY14
import Derived.Test.YtiahedkmlacpkaaPrintY16
namespace Go.Proofs.Ytiahedkmlacpkaa.PrintY
open Go.RowKit Go.Proofs.YtiahedkmlacpkaaLib Go.Proofs.YtiahedkmlacpkaaW.PrintWords Go.Proofs.YtiahedkmlacpkaaW.PrintLast Go.Proofs.YtiahedkmlacpkaaW.PrintMore
attribute [local go_sem] max2_int min2_int max_two min_two max_three min_three max_four min_four   -- for this text's walks alone
set_option linter.unusedVariables false
set_option linter.unusedSimpArgs false

/-! ### impl_CostOfPlay: function 35, a contract of our own -/
def cpF (k : Nat) (E T C : Int) (e : Nat) (n : Int) : Nat → Int → Int → Option Int
  | 0, _, s => some s
  | d + 1, b, s => (impl_Prices_of.f k E T C (playF bestF b n.toNat e n 0 [])).bind fun x => cpF k E T C e n d (b + 1) (mx s x)
def impl_CostOfPlay.f (k : Nat) (a0_0 a0_1 a0_2 a1 a2 : Int) : Option (Int × Bool) := (impl_isCostly.f a0_0 a0_1 a0_2 a1 a2).bind fun t => if t = true then ((cpF k a0_0 a0_1 a0_2 a1.toNat a2 (a2.toNat + 1) 0 0).bind fun s => some (s, true)) else some (0, false)
theorem impl_CostOfPlay.cpF_mono (E T C : Int) (e : Nat) (n : Int) (k : Nat) : ∀ d b s, LeO (cpF k E T C e n d b s) (cpF (k + 1) E T C e n d b s)
  | 0, _, _ => LeO.refl _
  | d + 1, b, s => LeO.bind (impl_Prices_of.mono _ _ _ _ k) (fun x => impl_CostOfPlay.cpF_mono E T C e n k d (b + 1) (mx s x))
theorem impl_CostOfPlay.mono : ∀ a0_0 a0_1 a0_2 a1 a2 k, LeO (impl_CostOfPlay.f k a0_0 a0_1 a0_2 a1 a2) (impl_CostOfPlay.f (k + 1) a0_0 a0_1 a0_2 a1 a2) := by
  intro a0_0 a0_1 a0_2 a1 a2 k
  unfold impl_CostOfPlay.f
  exact LeO.bind (LeO.refl _) (fun t => LeO.ite (LeO.bind (impl_CostOfPlay.cpF_mono _ _ _ _ _ k _ _ _) (fun _ => LeO.refl _)) (LeO.refl _))
theorem impl_isCostly_true (p q r a n : Int) (h : impl_isCostly.f p q r a n = some true) : (1 ≤ a ∧ a ≤ 10) ∧ (0 ≤ n ∧ n ≤ 60) := by
  unfold impl_isCostly.f at h
  obtain ⟨t, _, h⟩ := Option.bind_eq_some_iff.mp h
  cases t with
  | false => rw [if_neg (by decide)] at h; cases h
  | true =>
    rw [if_pos rfl, impl_isEggs_is, Option.bind_some] at h
    by_cases h1 : (decide (1 ≤ a) && decide (a ≤ 10)) = true
    · rw [if_pos h1, impl_within_is, Option.bind_some] at h
      have h2 := Option.some.inj h
      simp only [Bool.and_eq_true, decide_eq_true_eq] at h1 h2
      exact ⟨h1, h2⟩
    · rw [if_neg h1] at h; cases h
set_option maxHeartbeats 8000000 in
set_option maxRecDepth 100000 in
theorem impl_CostOfPlay.calls (k : Nat) (a0_0 a0_1 a0_2 a1 a2 : Int) (r1 : Int) (r2 : Bool) (w : World) (h : impl_CostOfPlay.f k a0_0 a0_1 a0_2 a1 a2 = some (r1, r2)) :
    Calls Try.prog 35 #[.agg #[.int .i64 a0_0, .int .i64 a0_1, .int .i64 a0_2], .int .i64 a1, .int .i64 a2] w fun e w' => e = .returned (.tuple #[.int .i64 r1, .bool r2]) ∧ Below w.heap.size w w' := by
  unfold impl_CostOfPlay.f at h
  obtain ⟨t, ht, h⟩ := Option.bind_eq_some_iff.mp h
  have HW := Aside0.mk (fun W => impl_isCostly.calls a0_0 a0_1 a0_2 a1 a2 t W ht)
  have HB := Aside0.mk (Below.refl w.heap.size w)
  cases t with
  | false =>
    rw [if_neg (by decide)] at h
    obtain ⟨rfl, rfl⟩ := Prod.mk.inj (Option.some.inj h)
    clear h ht
    go_enter Try.func35, Try.ntmps35
    go_wp2_with (first
      | ((with_reducible refine gate_dst (N := 3) rfl ?_); refine box_event ?hg (N := 3) ?hd (cs := #[.int .i64 a0_0, .int .i64 a0_1, .int .i64 a0_2]) (t := 45) ?hr ?_; (case hd => rfl); (case hg => rfl); (case hr => first | (go_simp; done) | (go_simp; rfl)); intro g3 hg w3 hbox hb; have HB := Aside0.mk (below_step HB.out hb); have hx0 : w3.cell? ⟨g3, 0, none⟩ = some (.int .i64 a0_0) := (blk_cell hbox 0).trans rfl; have hx1 : w3.cell? ⟨g3, 1, none⟩ = some (.int .i64 a0_1) := (blk_cell hbox 1).trans rfl; have hx2 : w3.cell? ⟨g3, 2, none⟩ = some (.int .i64 a0_2) := (blk_cell hbox 2).trans rfl; clear hg hbox hb)
      | (go_at_call 68; refine (HW.out _).mono ?_; rintro e w' ⟨rfl, hb⟩; have HB := Aside0.mk (below_step HB.out hb); clear hb hx0 hx1 hx2))
    go_ret2
    exact ⟨rfl, HB.out⟩
  | true =>
    rw [if_pos rfl] at h
    obtain ⟨⟨ha, hb⟩, ⟨hc, hd⟩⟩ := impl_isCostly_true _ _ _ _ _ ht
    obtain ⟨s, hs, h⟩ := Option.bind_eq_some_iff.mp h
    obtain ⟨hq, rfl⟩ := Prod.mk.inj (Option.some.inj h)
    rw [hq] at hs
    clear hq
    obtain ⟨e, rfl⟩ : ∃ m : Nat, a1 = m := ⟨a1.toNat, by omega⟩
    obtain ⟨n, rfl⟩ : ∃ m : Nat, a2 = m := ⟨a2.toNat, by omega⟩
    rw [Int.toNat_natCast, Int.toNat_natCast] at hs
    have HS0 := Aside0.mk hs
    have HP := Aside0.mk (fun (g : Nat) (W : World) (hR : IsReaches W g) (b : Int) (h3 : 0 ≤ b) (h4 : b ≤ 1000) =>
      play_calls 43 #[.pointer (some ⟨g, 0, none⟩)] #[] bestF e n b W (by omega) (by omega) (by omega) (by omega) h3 h4 (enters_ Try.func43 (by kernel_rfl) rfl) bestF_range bestF_one
          (fun W2 e n hW h1 h2 h3 h4 => (best_calls g e n W2 h1 h2 h3 h4 (IsReaches.below hR hW)).mono fun e' w' hh => ⟨hh.1, by obtain ⟨m, hm⟩ := hh.2; rw [hm]; exact pw_below_drewN (Below.refl _ _) _⟩))
    clear h hs ht
    have hnz : (n : Int) ≤ 60 := hd
    go_enter Try.func35, Try.ntmps35
    go_wp2_with (first
      | ((with_reducible refine gate_dst (N := 3) rfl ?_); refine box_event ?hg (N := 3) ?hd (cs := #[.int .i64 a0_0, .int .i64 a0_1, .int .i64 a0_2]) (t := 45) ?hr ?_; (case hd => rfl); (case hg => rfl); (case hr => first | (go_simp; done) | (go_simp; rfl)); intro g3 hg w3 hbox hb; have HB := Aside0.mk (below_step HB.out hb); have K3 := Aside0.mk hbox; have hx0 : w3.cell? ⟨g3, 0, none⟩ = some (.int .i64 a0_0) := (blk_cell hbox 0).trans rfl; have hx1 : w3.cell? ⟨g3, 1, none⟩ = some (.int .i64 a0_1) := (blk_cell hbox 1).trans rfl; have hx2 : w3.cell? ⟨g3, 2, none⟩ = some (.int .i64 a0_2) := (blk_cell hbox 2).trans rfl; clear hg hbox hb)
      | (go_at_call 68; refine (HW.out _).mono ?_; rintro e w' ⟨rfl, hb⟩; have HB := Aside0.mk (below_step HB.out hb); have K3 := Aside0.mk (blk_below K3.out hb); clear hb hx0 hx1 hx2)
      | (go_at_call 42; refine (newReaches_calls _).mono ?_; rintro e w' ⟨g, rfl, hR, hg, hb⟩; have HR := Aside0.mk hR; have HB := Aside0.mk (below_step HB.out hb); have K3 := Aside0.mk (blk_below K3.out hb); clear hR hb hg))
    go_loopg [9, 10, 19] (n + 1) (fun gg v9 _ v19 wr => ∃ (b : Nat) (s : Int), b ≤ n + 1 ∧ n + 1 - b ≤ gg ∧ v19 = .int .i64 b ∧ v9 = .int .i64 s ∧ Aside0 (cpF k a0_0 a0_1 a0_2 e n (n + 1 - b) b s = some r1) ∧ Aside0 (wr.heap[g3]? = some (.cells #[.int .i64 a0_0, .int .i64 a0_1, .int .i64 a0_2] 45 (0, 0))) ∧ Aside0 (IsReaches wr g) ∧ Aside0 (Below w.heap.size w wr))
    case atStart => exact ⟨0, 0, Nat.zero_le _, by omega, rfl, rfl, HS0, K3, HR, HB⟩
    case round =>
      clear HS0 K3 HR HB
      obtain ⟨b, s, hb1, hgg, rfl, rfl, HS, K3, HR, HB⟩ := hrel
      by_cases hlt : b ≤ n
      · have hltz : (b : Int) < (n : Int) + 1 := by omega
        have hs := HS.out
        rw [show n + 1 - b = (n - b) + 1 by omega, cpF] at hs
        obtain ⟨x, hx, hs⟩ := Option.bind_eq_some_iff.mp hs
        have hp := HP.out g wr HR.out (b : Int) (by omega) (by omega)
        have HPW := Aside0.mk (fun (W : World) (hR : IsReaches W g) => HP.out g W hR (b : Int) (by omega) (by omega))
        generalize playF bestF (b : Int) ((n : Int)).toNat e (n : Int) 0 [] = L at hx HPW
        have HX := Aside0.mk hx
        clear hp hx HS
        have hx0 : wr.cell? ⟨g3, 0, none⟩ = some (.int .i64 a0_0) := (blk_cell K3.out 0).trans rfl
        have hx1 : wr.cell? ⟨g3, 1, none⟩ = some (.int .i64 a0_1) := (blk_cell K3.out 1).trans rfl
        have hx2 : wr.cell? ⟨g3, 2, none⟩ = some (.int .i64 a0_2) := (blk_cell K3.out 2).trans rfl
        have hmx : s < x ∨ x ≤ s := by omega
        rcases hmx with hm | hm
        case' inl => rw [show mx s x = x by unfold mx; omega] at hs
        case' inr => rw [show mx s x = s by unfold mx; omega] at hs
        all_goals
          have HS := Aside0.mk hs
          clear hs
          go_wp2
          go_region_with (first
            | (go_at_call 41; refine (HPW.out _ (by first | exact HR.out | exact IsReaches.below HR.out (by repeat (first | (with_reducible first | exact Below.refl _ _ | apply pw_below_drewN | apply below_drew1) | exact Below.refl _ _)))).mono ?_; rintro e_ w9 ⟨v, rfl, hr, hb⟩; have hb9 := below_step (show Below wr.heap.size wr _ from (by repeat (first | (with_reducible first | exact Below.refl _ _ | apply pw_below_drewN | apply below_drew1) | exact Below.refl _ _))) hb; have K9 := blk_below K3.out hb9; have hy0 : w9.cell? ⟨g3, 0, none⟩ = some (.int .i64 a0_0) := (blk_cell K9 0).trans rfl; have hy1 : w9.cell? ⟨g3, 1, none⟩ = some (.int .i64 a0_1) := (blk_cell K9 1).trans rfl; have hy2 : w9.cell? ⟨g3, 2, none⟩ = some (.int .i64 a0_2) := (blk_cell K9 2).trans rfl; obtain ⟨A_, c_, hv_⟩ := Kd.R_slice hr; subst hv_; have HC9 := Aside0.mk (Kd.R_reads' hr).2.2; have HCc := Aside0.mk (Kd.R_reads' hr).2.1; have HB9 := Aside0.mk hb9; clear hr hb hb9 K9)
            | (go_at_call 69; refine (impl_Prices_of.calls k a0_0 a0_1 a0_2 _ _ L x _ (by first | exact HC9.out | exact Kd.C_below HC9.out (by repeat (first | (with_reducible first | exact Below.refl _ _ | apply pw_below_drewN | apply below_drew1) | exact Below.refl _ _))) HCc.out HX.out).mono ?_; rintro e_ w10 ⟨rfl, hb⟩; have HB10 := Aside0.mk (below_step (show Below wr.heap.size wr _ from (by repeat (first | (with_reducible first | exact HB9.out | apply pw_below_drewN | apply below_drew1) | exact HB9.out))) hb); clear hb))
        all_goals
          go_wp2
          go_roundg (n + 1 - (b + 1))
          case measure => omega
          case rel =>
            first
              | exact ⟨b + 1, x, by omega, by omega, by go_num, rfl, ⟨by have := HS.out; rw [show n + 1 - (b + 1) = n - b by omega]; rw [show ((b + 1 : Nat) : Int) = (b : Int) + 1 by omega]; exact this⟩, ⟨blk_below K3.out (by repeat (first | (with_reducible first | exact HB10.out | apply pw_below_drewN | apply below_drew1) | exact HB10.out))⟩, ⟨IsReaches.below HR.out (by repeat (first | (with_reducible first | exact HB10.out | apply pw_below_drewN | apply below_drew1) | exact HB10.out))⟩, ⟨below_step HB.out (by repeat (first | (with_reducible first | exact HB10.out | apply pw_below_drewN | apply below_drew1) | exact HB10.out))⟩⟩
              | exact ⟨b + 1, s, by omega, by omega, by go_num, rfl, ⟨by have := HS.out; rw [show n + 1 - (b + 1) = n - b by omega]; rw [show ((b + 1 : Nat) : Int) = (b : Int) + 1 by omega]; exact this⟩, ⟨blk_below K3.out (by repeat (first | (with_reducible first | exact HB10.out | apply pw_below_drewN | apply below_drew1) | exact HB10.out))⟩, ⟨IsReaches.below HR.out (by repeat (first | (with_reducible first | exact HB10.out | apply pw_below_drewN | apply below_drew1) | exact HB10.out))⟩, ⟨below_step HB.out (by repeat (first | (with_reducible first | exact HB10.out | apply pw_below_drewN | apply below_drew1) | exact HB10.out))⟩⟩
      · have hltz : ¬ (b : Int) < (n : Int) + 1 := by omega
        obtain rfl : b = n + 1 := by omega
        have HF : Aside0 (s = r1) := ⟨by have := HS.out; rw [Nat.sub_self, cpF] at this; exact Option.some.inj this⟩
        go_wp2
        go_ret2
        exact ⟨by rw [← HF.out]; rfl, HB.out⟩


/-! ### laws_FnExactCostOfPlay: function 10, a law -/
/-- THE ONE PURE STATEMENT of laws_FnExactCostOfPlay. -/
def laws_FnExactCostOfPlay.Pure : Prop := ∀ (a0_0 a0_1 a0_2 : Int) (a1 : Int) (a2 : Int), (Lit.int .i64 a0_0).wf = true → (Lit.int .i64 a0_1).wf = true → (Lit.int .i64 a0_2).wf = true → (Lit.int .i64 a1).wf = true → (Lit.int .i64 a2).wf = true → ∃ (k1 : Nat) (k2 : Nat) (r1 : Int) (r2 : Bool), spec_CostOfPlay.f k1 a0_0 a0_1 a0_2 a1 a2 = some (r1, r2) ∧ impl_CostOfPlay.f k2 a0_0 a0_1 a0_2 a1 a2 = some (r1, r2)
set_option maxHeartbeats 8000000 in
set_option maxRecDepth 100000 in
theorem laws_FnExactCostOfPlay.alike (k1 : Nat) (k2 : Nat) (a0_0 a0_1 a0_2 : Int) (a1 : Int) (a2 : Int) (r1 : Int) (r2 : Bool) (w : World)  (hs : spec_CostOfPlay.f k1 a0_0 a0_1 a0_2 a1 a2 = some (r1, r2)) (hi : impl_CostOfPlay.f k2 a0_0 a0_1 a0_2 a1 a2 = some (r1, r2)) :
    Calls Try.prog 10 #[.agg #[.int .i64 a0_0, .int .i64 a0_1, .int .i64 a0_2], .int .i64 a1, .int .i64 a2] w fun e w' => e = .returned (.bool true) ∧ Below w.heap.size w w' := by
  have HS := Aside0.mk hs
  have HI := Aside0.mk hi
  clear hs hi
  have HB := Aside0.mk (below_alloc (Below.refl w.heap.size w) (.cells #[.int .i64 a0_0, .int .i64 a0_1, .int .i64 a0_2] 43 (0, 0)))
  have K0 := Aside0.mk (blk_new w (.cells #[.int .i64 a0_0, .int .i64 a0_1, .int .i64 a0_2] 43 (0, 0)))
  go_enter Try.func10, Try.ntmps10
  go_wp2_with fail
  refine (laws_toPrices.calls a0_0 a0_1 a0_2 a0_0 a0_1 a0_2 _ (by unfold laws_toPrices.f; rfl)).mono ?_
  rintro e w1_ ⟨rfl, hb⟩
  have HZ1 : Aside0 ((w.alloc (.cells #[.int .i64 a0_0, .int .i64 a0_1, .int .i64 a0_2] 43 (0, 0))).heap.size ≤ w1_.heap.size) := ⟨hb.size⟩
  have K0_ := Aside0.mk (blk_below K0.out hb)
  clear K0
  have K0 := K0_
  clear K0_
  have hx0_ : w1_.cell? ⟨w.heap.size, 0, none⟩ = some (.int .i64 a0_0) := (blk_cell K0.out 0).trans rfl
  have hx1_ : w1_.cell? ⟨w.heap.size, 1, none⟩ = some (.int .i64 a0_1) := (blk_cell K0.out 1).trans rfl
  have hx2_ : w1_.cell? ⟨w.heap.size, 2, none⟩ = some (.int .i64 a0_2) := (blk_cell K0.out 2).trans rfl
  have HB_ := Aside0.mk (below_step HB.out hb)
  clear HB hb
  have HB := HB_
  clear HB_
  go_wp2_with fail
  refine (spec_CostOfPlay.calls k1 a0_0 a0_1 a0_2 a1 a2 r1 r2 _  HS.out).mono ?_
  rintro e w2_ ⟨rfl, hb⟩
  have HB0 : Aside0 (w.heap.size ≤ w1_.heap.size) := ⟨HB.out.size⟩
  have HZ2 : Aside0 (w1_.heap.size ≤ w2_.heap.size) := ⟨hb.size⟩
  clear hx0_ hx1_ hx2_
  have K0_ := Aside0.mk (blk_below K0.out hb)
  clear K0
  have K0 := K0_
  clear K0_
  have hx0_ : w2_.cell? ⟨w.heap.size, 0, none⟩ = some (.int .i64 a0_0) := (blk_cell K0.out 0).trans rfl
  have hx1_ : w2_.cell? ⟨w.heap.size, 1, none⟩ = some (.int .i64 a0_1) := (blk_cell K0.out 1).trans rfl
  have hx2_ : w2_.cell? ⟨w.heap.size, 2, none⟩ = some (.int .i64 a0_2) := (blk_cell K0.out 2).trans rfl
  have HB_ := Aside0.mk (below_step HB.out hb)
  clear HB hb
  have HB := HB_
  clear HB_
  clear HB0
  go_wp2_with fail
  refine (laws_toPrices.calls a0_0 a0_1 a0_2 a0_0 a0_1 a0_2 _ (by unfold laws_toPrices.f; rfl)).mono ?_
  rintro e w3_ ⟨rfl, hb⟩
  have HZ3 : Aside0 (w2_.heap.size ≤ w3_.heap.size) := ⟨hb.size⟩
  clear hx0_ hx1_ hx2_
  have K0_ := Aside0.mk (blk_below K0.out hb)
  clear K0
  have K0 := K0_
  clear K0_
  have hx0_ : w3_.cell? ⟨w.heap.size, 0, none⟩ = some (.int .i64 a0_0) := (blk_cell K0.out 0).trans rfl
  have hx1_ : w3_.cell? ⟨w.heap.size, 1, none⟩ = some (.int .i64 a0_1) := (blk_cell K0.out 1).trans rfl
  have hx2_ : w3_.cell? ⟨w.heap.size, 2, none⟩ = some (.int .i64 a0_2) := (blk_cell K0.out 2).trans rfl
  have HB_ := Aside0.mk (below_step HB.out hb)
  clear HB hb
  have HB := HB_
  clear HB_
  go_wp2_with fail
  refine (impl_CostOfPlay.calls k2 a0_0 a0_1 a0_2 a1 a2 r1 r2 _  HI.out).mono ?_
  rintro e w4_ ⟨rfl, hb⟩
  have HB0 : Aside0 (w.heap.size ≤ w3_.heap.size) := ⟨HB.out.size⟩
  have HZ4 : Aside0 (w3_.heap.size ≤ w4_.heap.size) := ⟨hb.size⟩
  clear hx0_ hx1_ hx2_
  have K0_ := Aside0.mk (blk_below K0.out hb)
  clear K0
  have K0 := K0_
  clear K0_
  have hx0_ : w4_.cell? ⟨w.heap.size, 0, none⟩ = some (.int .i64 a0_0) := (blk_cell K0.out 0).trans rfl
  have hx1_ : w4_.cell? ⟨w.heap.size, 1, none⟩ = some (.int .i64 a0_1) := (blk_cell K0.out 1).trans rfl
  have hx2_ : w4_.cell? ⟨w.heap.size, 2, none⟩ = some (.int .i64 a0_2) := (blk_cell K0.out 2).trans rfl
  have HB_ := Aside0.mk (below_step HB.out hb)
  clear HB hb
  have HB := HB_
  clear HB_
  clear HB0
  go_wp2
  go_ret
  exact ⟨rfl, HB.out⟩
set_option maxHeartbeats 4000000 in
set_option maxRecDepth 100000 in
theorem laws_FnExactCostOfPlay.walk (P : laws_FnExactCostOfPlay.Pure) (a0_0 a0_1 a0_2 : Int) (a1 : Int) (a2 : Int) (w : World) (w0_0 : (Lit.int .i64 a0_0).wf = true) (w0_1 : (Lit.int .i64 a0_1).wf = true) (w0_2 : (Lit.int .i64 a0_2).wf = true) (w1 : (Lit.int .i64 a1).wf = true) (w2 : (Lit.int .i64 a2).wf = true) :
    Calls Try.prog 10 #[.agg #[.int .i64 a0_0, .int .i64 a0_1, .int .i64 a0_2], .int .i64 a1, .int .i64 a2] w fun e w' => e = .returned (.bool true) ∧ Below w.heap.size w w' := by
  obtain ⟨k1, k2, r1, r2, hs, hi⟩ := P a0_0 a0_1 a0_2 a1 a2 w0_0 w0_1 w0_2 w1 w2
  exact laws_FnExactCostOfPlay.alike k1 k2 a0_0 a0_1 a0_2 a1 a2 r1 r2 w  hs hi


end Go.Proofs.Ytiahedkmlacpkaa.PrintY
