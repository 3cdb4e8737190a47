-- written by this session's own driver (wip/gen.py) with the kit's print and contracts of our own
import Derived.Test.YtmclbiollhdbjaaPrintY0
import Derived.Test.YtmclbiollhdbjaaPrintY1
import Derived.Test.YtmclbiollhdbjaaPrintY3
import Derived.Test.YtmclbiollhdbjaaPrintY9
import Derived.Test.YtmclbiollhdbjaaPrintY10
import Derived.Test.YtmclbiollhdbjaaPrintY11
namespace Go.Proofs.Ytmclbiollhdbjaa.PrintY
open Go.RowKit Go.Proofs.YtmclbiollhdbjaaLib Go.Proofs.YtmclbiollhdbjaaW.PrintWords Go.Proofs.YtmclbiollhdbjaaW.PrintLast Go.Proofs.YtmclbiollhdbjaaW.PrintMore
attribute [local go_sem] max2_int min2_int max_two min_two max_three min_three max_four min_four   -- for this text's walks alone
set_option linter.unusedVariables false
set_option linter.unusedSimpArgs false

/-! ### impl_reaches_fewest: function 57, a contract of our own -/
set_option maxHeartbeats 4000000 in
set_option maxRecDepth 100000 in
theorem fewest_calls (g e : Nat) (n : Int) (w : World) (he0 : 1 ≤ e) (he : e ≤ 10) (hR : IsReaches w g) :
    Calls Try.prog 57 #[.pointer (some ⟨g, 0, none⟩), .int .i64 e, .int .i64 n] w fun e' w' => e' = .returned (.int .i64 (few e n)) ∧ w = w' := by
  have HR := Aside0.mk hR
  clear hR
  have hz0 : (0 : Int) ≤ (e : Int) := by omega
  have hz1 : (e : Int) < 11 := by omega
  go_enter Try.func57, Try.ntmps57
  go_wp2
  go_loopg [7, 8] 1001 (fun gg v7 v8 wr => ∃ lo hi : Nat, lo ≤ few e n ∧ few e n ≤ hi ∧ hi ≤ 1000 ∧ hi - lo ≤ gg ∧ v7 = .int .i64 lo ∧ v8 = .int .i64 hi ∧ w = wr)
  case atStart => exact ⟨0, 1000, Nat.zero_le _, few_le e n, by omega, by omega, rfl, rfl, rfl⟩
  case round =>
    obtain ⟨lo, hi, h1, h2, h3, h4, rfl, rfl, rfl⟩ := hrel
    by_cases hlt : lo < hi
    · have hltz : (lo : Int) < (hi : Int) := by omega
      obtain ⟨m, hm⟩ : ∃ m : Nat, m = (lo + hi) / 2 := ⟨_, rfl⟩
      have hm1 : lo ≤ m := by omega
      have hm2 : m < hi := by omega
      have hmz : ((lo : Int) + (hi : Int)) / 2 = (m : Int) := by omega
      have hx := HR.out.at_ m e (by omega) he
      have hb1 : (m : Int) < 1001 := by omega
      have hfew := few_le_iff e n m (by omega)
      clear hm
      by_cases ht : n ≤ rch m e
      · have hle := hfew.2 ht
        have hdt : decide (n ≤ rch m e) = true := decide_eq_true ht
        clear hfew ht
        go_wp2
        go_roundg (m - lo)
        case measure => omega
        case rel => exact ⟨lo, m, h1, hle, by omega, Nat.le_refl _, rfl, by rw [hmz], rfl⟩
      · have hle : m < few e n := Nat.lt_of_not_le (fun h => ht (hfew.1 h))
        have hdt : decide (n ≤ rch m e) = false := decide_eq_false ht
        clear hfew ht
        go_wp2
        go_roundg (hi - (m + 1))
        case measure => omega
        case rel => exact ⟨m + 1, hi, hle, h2, h3, Nat.le_refl _, by go_num, rfl, rfl⟩
    · have hltz : ¬ (lo : Int) < (hi : Int) := by omega
      have hq : lo = few e n := by omega
      have HQ := Aside0.mk hq
      clear hq
      go_wp2
      go_ret
      exact ⟨by rw [← HQ.out]; rfl, rfl⟩

/-! ### impl_IsBestTree: function 34, a contract of our own -/
def impl_IsBestTree.f (k : Nat) (a0 : Int) (l1 : List Int) : Option (Bool × Bool) :=
  (impl_isEggs.f a0).bind fun t => if t = true then ((impl_IsTree.f k l1).bind fun u => if u = true then ((impl_most.f k l1 1 1).bind fun m1 => if m1 = (few a0.toNat (l1.length : Int) : Int) then ((impl_most.f k l1 1 0).bind fun m2 => some (decide (m2 ≤ a0), true)) else some (false, true)) else some (false, false)) else some (false, false)
set_option maxHeartbeats 4000000 in
set_option maxRecDepth 100000 in
theorem impl_IsBestTree.calls (k : Nat) (a0 : Int) (A1 : Option Addr) (c1 : Nat) (l1 : List Int) (r1 r2 : Bool) (w : World) (hr1 : Kd.C (Kd.int .i64) w A1 l1.length l1) (hc1 : l1.length ≤ c1) (h : impl_IsBestTree.f k a0 l1 = some (r1, r2)) :
    Calls Try.prog 34 #[.int .i64 a0, .slice A1 l1.length c1] w fun e w' => e = .returned (.tuple #[.bool r1, .bool r2]) ∧ Below w.heap.size w w' := by
  unfold impl_IsBestTree.f at h
  obtain ⟨t, ht, h⟩ := Option.bind_eq_some_iff.mp h
  have HW := Aside0.mk (fun W => impl_isEggs.calls0 a0 t W ht)
  have HB := Aside0.mk (Below.refl w.heap.size w)
  have HR := Aside0.mk hr1
  have HC := Aside0.mk hc1
  clear hr1 hc1
  cases t with
  | false =>
    rw [if_neg (by decide)] at h
    obtain ⟨rfl, rfl⟩ := Prod.mk.inj (Option.some.inj h)
    clear h ht
    go_enter Try.func34, Try.ntmps34
    go_wp2_with (go_at_call 55; refine (HW.out _).mono ?_; rintro e w' ⟨rfl, rfl⟩)
    go_ret2
    exact ⟨rfl, HB.out⟩
  | true =>
    rw [if_pos rfl] at h
    obtain ⟨u, hu, h⟩ := Option.bind_eq_some_iff.mp h
    have HT := Aside0.mk (fun W (hb : Below w.heap.size w W) => impl_IsTree.calls k A1 c1 l1 u W (Kd.C_below HR.out hb) HC.out hu)
    cases u with
    | false =>
      rw [if_neg (by decide)] at h
      obtain ⟨rfl, rfl⟩ := Prod.mk.inj (Option.some.inj h)
      clear h ht hu
      go_enter Try.func34, Try.ntmps34
      go_wp2_with (first
        | (go_at_call 55; refine (HW.out _).mono ?_; rintro e w' ⟨rfl, rfl⟩)
        | (go_at_call 38; refine (HT.out _ HB.out).mono ?_; rintro e w' ⟨rfl, ⟨nd, rfl⟩⟩; have HB := Aside0.mk (pw_below_drewN HB.out nd)))
      go_ret2
      exact ⟨rfl, HB.out⟩
    | true =>
      rw [if_pos rfl] at h
      obtain ⟨m1, hm1, h⟩ := Option.bind_eq_some_iff.mp h
      rw [impl_isEggs_is] at ht
      have hab := Option.some.inj ht
      simp only [Bool.and_eq_true, decide_eq_true_eq] at hab
      obtain ⟨ha, hb⟩ := hab
      obtain ⟨e0, rfl⟩ : ∃ m : Nat, a0 = m := ⟨a0.toNat, by omega⟩
      rw [Int.toNat_natCast] at h
      have HM1 := Aside0.mk (fun W (hb : Below w.heap.size w W) => impl_most.calls k A1 c1 l1 1 1 m1 W (Kd.C_below HR.out hb) HC.out hm1)
      have HF := Aside0.mk (fun (g : Nat) (W : World) (hR : IsReaches W g) => fewest_calls g e0 (l1.length : Int) W (by omega) (by omega) hR)
      by_cases he : m1 = (few e0 (l1.length : Int) : Int)
      · rw [if_pos he] at h
        obtain ⟨m2, hm2, h⟩ := Option.bind_eq_some_iff.mp h
        obtain ⟨rfl, rfl⟩ := Prod.mk.inj (Option.some.inj h)
        have HM2 := Aside0.mk (fun W (hb : Below w.heap.size w W) => impl_most.calls k A1 c1 l1 1 0 m2 W (Kd.C_below HR.out hb) HC.out hm2)
        rw [← he] at HF
        clear h ht hu hm1 hm2 he ha hb
        go_enter Try.func34, Try.ntmps34
        go_wp2_with (first
          | (go_at_call 55; refine (HW.out _).mono ?_; rintro e w' ⟨rfl, rfl⟩)
          | (go_at_call 38; refine (HT.out _ HB.out).mono ?_; rintro e w' ⟨rfl, ⟨nd, rfl⟩⟩; have HB := Aside0.mk (pw_below_drewN HB.out nd); clear HT)
          | (go_at_call 39; refine (HM1.out _ HB.out).mono ?_; rintro e w' ⟨rfl, hb⟩; have HB := Aside0.mk (below_step HB.out hb); clear hb HM1)
          | (go_at_call 56; refine (newReaches_calls _).mono ?_; rintro e w' ⟨g, rfl, hR, hg, hb⟩; have HF := Aside0.mk (HF.out _ _ hR); have HB := Aside0.mk (below_step HB.out hb); clear hR hb hg)
          | (go_at_call 57; refine (HF.out).mono ?_; rintro e w' ⟨rfl, rfl⟩)
          | (go_at_call 39; refine (HM2.out _ HB.out).mono ?_; rintro e w' ⟨rfl, hb⟩; have HB := Aside0.mk (below_step HB.out hb); clear hb))
        go_ret2
        exact ⟨rfl, HB.out⟩
      · rw [if_neg he] at h
        obtain ⟨rfl, rfl⟩ := Prod.mk.inj (Option.some.inj h)
        generalize (few e0 (l1.length : Int)) = f at HF he
        have he1 : (m1 == (f : Int)) = false := beq_eq_false_iff_ne.mpr he
        clear h ht hu hm1 he ha hb
        go_enter Try.func34, Try.ntmps34
        go_wp2_with (first
          | (go_at_call 55; refine (HW.out _).mono ?_; rintro e w' ⟨rfl, rfl⟩)
          | (go_at_call 38; refine (HT.out _ HB.out).mono ?_; rintro e w' ⟨rfl, ⟨nd, rfl⟩⟩; have HB := Aside0.mk (pw_below_drewN HB.out nd); clear HT)
          | (go_at_call 39; refine (HM1.out _ HB.out).mono ?_; rintro e w' ⟨rfl, hb⟩; have HB := Aside0.mk (below_step HB.out hb); clear hb HM1)
          | (go_at_call 56; refine (newReaches_calls _).mono ?_; rintro e w' ⟨g, rfl, hR, hg, hb⟩; have HF := Aside0.mk (HF.out _ _ hR); have HB := Aside0.mk (below_step HB.out hb); clear hR hb hg)
          | (go_at_call 57; refine (HF.out).mono ?_; rintro e w' ⟨rfl, rfl⟩))
        go_ret2
        exact ⟨rfl, HB.out⟩


/-! ### laws_FnExactIsBestTree: function 10, a law -/
/-- THE ONE PURE STATEMENT of laws_FnExactIsBestTree. -/
def laws_FnExactIsBestTree.Pure : Prop := ∀ (a0 : Int) (l1 : List Int), (Lit.int .i64 a0).wf = true → (∀ x ∈ l1, (Lit.int .i64 x).wf = true) → l1.length ≤ 1000000 → ∃ (k1 : Nat) (k2 : Nat) (r1 : Bool) (r2 : Bool), spec_IsBestTree.f k1 a0 l1 = some (r1, r2) ∧ impl_IsBestTree.f k2 a0 l1 = some (r1, r2)
set_option maxHeartbeats 8000000 in
set_option maxRecDepth 100000 in
theorem laws_FnExactIsBestTree.alike (k1 : Nat) (k2 : Nat) (a0 : Int) (A1 : Option Addr) (c1 : Nat) (l1 : List Int) (r1 : Bool) (r2 : Bool) (w : World) (hr1 : Kd.C (Kd.int .i64) w A1 l1.length l1) (hc1 : l1.length ≤ c1) (hl : l1.length ≤ 1000000) (hs : spec_IsBestTree.f k1 a0 l1 = some (r1, r2)) (hi : impl_IsBestTree.f k2 a0 l1 = some (r1, r2)) :
    Calls Try.prog 10 #[.int .i64 a0, .slice A1 l1.length c1] w fun e w' => e = .returned (.bool true) ∧ Below w.heap.size w w' := by
  have HR1 := Aside0.mk hr1
  have HC1 := Aside0.mk hc1
  clear hr1 hc1
  have HL1 : Aside0 (l1.length ≤ 1000000) := ⟨by omega⟩
  have HS := Aside0.mk hs
  have HI := Aside0.mk hi
  clear hs hi
  have HB := Aside0.mk (Below.refl w.heap.size w)
  go_enter Try.func10, Try.ntmps10
  go_wp2_with fail
  refine (toIntS_full _ c1 l1 _ (Kd.C_below HR1.out HB.out) HL1.out).mono ?_
  rintro e w1_ ⟨g3_, c4_, rfl, hf, hb⟩
  have HB0 : Aside0 (w.heap.size ≤ w.heap.size) := ⟨HB.out.size⟩
  have HZ1 : Aside0 (w.heap.size ≤ w1_.heap.size) := ⟨hb.size⟩
  have HB_ := Aside0.mk (below_step HB.out hb)
  clear HB hb
  have HB := HB_
  clear HB_
  have F2_ := Aside0.mk (show FullG w1_ w.heap.size (Btw w.heap.size w1_.heap.size) _ _ _ from r_btw hf (by have := HB0.out; exact this))
  clear hf HB0
  go_wp2_with fail
  refine (spec_IsBestTree.calls k1 a0 (some ⟨g3_, 0, none⟩) c4_ l1 r1 r2 _ (FullG.reads F2_.out).2 (FullG.reads F2_.out).1 HS.out).mono ?_
  rintro e w2_ ⟨rfl, hb⟩
  have HB0 : Aside0 (w.heap.size ≤ w1_.heap.size) := ⟨HB.out.size⟩
  have HZ2 : Aside0 (w1_.heap.size ≤ w2_.heap.size) := ⟨hb.size⟩
  have F2__ := Aside0.mk (FullG.below F2_.out hb)
  clear F2_
  have F2_ := F2__
  clear F2__
  have HB_ := Aside0.mk (below_step HB.out hb)
  clear HB hb
  have HB := HB_
  clear HB_
  clear HB0
  go_wp2_with fail
  refine (toIntS_full _ c1 l1 _ (Kd.C_below HR1.out HB.out) HL1.out).mono ?_
  rintro e w3_ ⟨g6_, c7_, rfl, hf, hb⟩
  have HB0 : Aside0 (w.heap.size ≤ w2_.heap.size) := ⟨HB.out.size⟩
  have HZ3 : Aside0 (w2_.heap.size ≤ w3_.heap.size) := ⟨hb.size⟩
  have F2__ := Aside0.mk (FullG.below F2_.out hb)
  clear F2_
  have F2_ := F2__
  clear F2__
  have HB_ := Aside0.mk (below_step HB.out hb)
  clear HB hb
  have HB := HB_
  clear HB_
  have F5_ := Aside0.mk (show FullG w3_ w.heap.size (Btw w2_.heap.size w3_.heap.size) _ _ _ from r_btw hf (by have := HB0.out; exact this))
  clear hf HB0
  go_wp2_with fail
  refine (impl_IsBestTree.calls k2 a0 (some ⟨g6_, 0, none⟩) c7_ l1 r1 r2 _ (FullG.reads F5_.out).2 (FullG.reads F5_.out).1 HI.out).mono ?_
  rintro e w4_ ⟨rfl, hb⟩
  have HB0 : Aside0 (w.heap.size ≤ w3_.heap.size) := ⟨HB.out.size⟩
  have HZ4 : Aside0 (w3_.heap.size ≤ w4_.heap.size) := ⟨hb.size⟩
  have F2__ := Aside0.mk (FullG.below F2_.out hb)
  clear F2_
  have F2_ := F2__
  clear F2__
  have F5__ := Aside0.mk (FullG.below F5_.out hb)
  clear F5_
  have F5_ := F5__
  clear F5__
  have HB_ := Aside0.mk (below_step HB.out hb)
  clear HB hb
  have HB := HB_
  clear HB_
  clear HB0
  go_wp2_with fail
  refine (toIntS_full _ c1 l1 _ (Kd.C_below HR1.out HB.out) HL1.out).mono ?_
  rintro e w5_ ⟨g10_, c11_, rfl, hf, hb⟩
  have HB0 : Aside0 (w.heap.size ≤ w4_.heap.size) := ⟨HB.out.size⟩
  have HZ5 : Aside0 (w4_.heap.size ≤ w5_.heap.size) := ⟨hb.size⟩
  have F2__ := Aside0.mk (FullG.below F2_.out hb)
  clear F2_
  have F2_ := F2__
  clear F2__
  have F5__ := Aside0.mk (FullG.below F5_.out hb)
  clear F5_
  have F5_ := F5__
  clear F5__
  have HB_ := Aside0.mk (below_step HB.out hb)
  clear HB hb
  have HB := HB_
  clear HB_
  have F9_ := Aside0.mk (show FullG w5_ w.heap.size (Btw w4_.heap.size w5_.heap.size) _ _ _ from r_btw hf (by have := HB0.out; exact this))
  clear hf HB0
  go_wp2_with fail
  refine (intactIntS_full _ _ _ _ _ _ _ _ _ _ F5_.out F9_.out HL1.out).mono ?_
  rintro e w6_ ⟨rfl, hd⟩
  have hb := hd.below
  clear hd
  have HZ6 : Aside0 (w5_.heap.size ≤ w6_.heap.size) := ⟨hb.size⟩
  have F2__ := Aside0.mk (FullG.below F2_.out hb)
  clear F2_
  have F2_ := F2__
  clear F2__
  have F5__ := Aside0.mk (FullG.below F5_.out hb)
  clear F5_
  have F5_ := F5__
  clear F5__
  have F9__ := Aside0.mk (FullG.below F9_.out hb)
  clear F9_
  have F9_ := F9__
  clear F9__
  have HB_ := Aside0.mk (below_step HB.out hb)
  clear HB hb
  have HB := HB_
  clear HB_
  go_wp2_with fail
  refine (toIntS_bare _ c1 l1 _ (Kd.C_below HR1.out HB.out) HL1.out).mono ?_
  rintro e w7_ ⟨A16_, c15_, rfl, hf, hb⟩
  have HB0 : Aside0 (w.heap.size ≤ w6_.heap.size) := ⟨HB.out.size⟩
  have HZ7 : Aside0 (w6_.heap.size ≤ w7_.heap.size) := ⟨hb.size⟩
  have F2__ := Aside0.mk (FullG.below F2_.out hb)
  clear F2_
  have F2_ := F2__
  clear F2__
  have F5__ := Aside0.mk (FullG.below F5_.out hb)
  clear F5_
  have F5_ := F5__
  clear F5__
  have F9__ := Aside0.mk (FullG.below F9_.out hb)
  clear F9_
  have F9_ := F9__
  clear F9__
  have HB_ := Aside0.mk (below_step HB.out hb)
  clear HB hb
  have HB := HB_
  clear HB_
  have F13_ := Aside0.mk (r_btw (b0 := w.heap.size) hf (by have := HB0.out; exact this))
  clear hf HB0
  go_wp2_with fail
  refine (impl_IsBestTree.calls k2 a0 A16_ c15_ l1 r1 r2 _ (Kd.R_reads' F13_.out).2.2 (Kd.R_reads' F13_.out).2.1 HI.out).mono ?_
  rintro e w8_ ⟨rfl, hb⟩
  have HB0 : Aside0 (w.heap.size ≤ w7_.heap.size) := ⟨HB.out.size⟩
  have HZ8 : Aside0 (w7_.heap.size ≤ w8_.heap.size) := ⟨hb.size⟩
  have F2__ := Aside0.mk (FullG.below F2_.out hb)
  clear F2_
  have F2_ := F2__
  clear F2__
  have F5__ := Aside0.mk (FullG.below F5_.out hb)
  clear F5_
  have F5_ := F5__
  clear F5__
  have F9__ := Aside0.mk (FullG.below F9_.out hb)
  clear F9_
  have F9_ := F9__
  clear F9__
  have F13__ := Aside0.mk (Kd.R_below F13_.out hb)
  clear F13_
  have F13_ := F13__
  clear F13__
  have HB_ := Aside0.mk (below_step HB.out hb)
  clear HB hb
  have HB := HB_
  clear HB_
  clear HB0
  go_wp2
  go_ret
  exact ⟨rfl, HB.out⟩
set_option maxHeartbeats 4000000 in
set_option maxRecDepth 100000 in
theorem laws_FnExactIsBestTree.walk (P : laws_FnExactIsBestTree.Pure) (a0 : Int) (a1 : Option Addr) (len1 cap1 : Nat) (z1 : List Int) (w : World) (w0 : (Lit.int .i64 a0).wf = true) (w1 : (a1 = none ∧ len1 = 0 ∧ cap1 = 0 ∧ z1 = []) ∨ ∃ x, a1 = some x ∧ len1 ≤ cap1 ∧ cap1 ≤ maxLen ∧ z1.length = cap1 ∧ (∀ i, i < z1.length → w.cell? (x.add i) = some (.int .i64 (z1.getD i 0))) ∧ ∀ n ∈ z1, (Lit.int .i64 n).wf = true) (y1 : len1 * 8 ≤ 140737488351232) :
    Calls Try.prog 10 #[.int .i64 a0, .slice a1 len1 cap1] w fun e w' => e = .returned (.bool true) ∧ Below w.heap.size w w' := by
  obtain ⟨l1, rfl, hr1, hm1, hw1, hc1⟩ := ReadsInt.ofRowC w1
  by_cases hl : l1.length ≤ 1000000
  · obtain ⟨k1, k2, r1, r2, hs, hi⟩ := P a0 l1 w0 hw1 hl
    exact laws_FnExactIsBestTree.alike k1 k2 a0 _ _ l1 r1 r2 w (Kd.C_of_reads (d := (0 : Int)) (h1 := fun _ => rfl) hr1) hc1 hl hs hi
  · clear hr1 hc1
    go_enter Try.func10, Try.ntmps10
    go_wp2
    go_ret
    exact ⟨rfl, Below.refl _ _⟩


end Go.Proofs.Ytmclbiollhdbjaa.PrintY
