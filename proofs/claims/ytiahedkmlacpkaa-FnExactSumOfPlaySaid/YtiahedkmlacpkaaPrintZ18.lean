-- written by this session's own driver (wip/gen.py) with the kit's print and contracts of our own
import Derived.Test.YtiahedkmlacpkaaPrintZ0
import Derived.Test.YtiahedkmlacpkaaPrintZ1
import Derived.Test.YtiahedkmlacpkaaPrintZ8
import Derived.Test.YtiahedkmlacpkaaPrintZ11
import Derived.Test.YtiahedkmlacpkaaPrintZ16
import Derived.Test.YtiahedkmlacpkaaPrintZ17
namespace Go.Proofs.Ytiahedkmlacpkaa.PrintZ
open Go.RowKit Go.Proofs.YtiahedkmlacpkaaW.PrintWords Go.Proofs.YtiahedkmlacpkaaW.PrintLast Go.Proofs.YtiahedkmlacpkaaW.PrintMore
attribute [local go_sem] max2_int min2_int max_two min_two max_three min_three max_four min_four   -- for this text's walks alone
set_option linter.unusedVariables false
set_option linter.unusedSimpArgs false

/-! ### impl_SumOfPlay: function 32, a contract of our own -/
/-- The sum of weights times numbers of drops. -/
def spL (e : Nat) (n : Int) : List Int → Int → Int → Int
  | [], _, s => s
  | x :: t, b, s => spL e n t (b + 1) (wrap64 (s + wrap64 (x * ((playF bestF b n.toNat e n 0 []).length : Int))))
def impl_SumOfPlay.f (a0 : Int) (l1 : List Int) : Option (Int × Bool) := (impl_isWeighed.f a0 l1).bind fun t => if t = true then some (spL a0.toNat ((l1.length : Int) - 1) l1 0 0, true) else some (0, false)
theorem drop_rd_ (l : List Int) (k : Nat) (h : k < l.length) : l.drop k = rd l (k : Int) :: l.drop (k + 1) := by
  rw [List.drop_eq_getElem_cons h]; simp [rd, List.getD_eq_getElem?_getD, h]
set_option maxHeartbeats 4000000 in
set_option maxRecDepth 100000 in
theorem impl_SumOfPlay.calls (a0 : Int) (A1 : Option Addr) (c1 : Nat) (l1 : List Int) (r1 : Int) (r2 : Bool) (w : World) (hr1 : Kd.C (Kd.int .i64) w A1 l1.length l1) (hc1 : l1.length ≤ c1) (h : impl_SumOfPlay.f a0 l1 = some (r1, r2)) :
    Calls Try.prog 32 #[.int .i64 a0, .slice A1 l1.length c1] w fun e w' => e = .returned (.tuple #[.int .i64 r1, .bool r2]) ∧ Below w.heap.size w w' := by
  unfold impl_SumOfPlay.f at h
  obtain ⟨t, ht, h⟩ := Option.bind_eq_some_iff.mp h
  have HW := Aside0.mk (impl_isWeighed.calls a0 A1 c1 l1 t w hr1 hc1 ht)
  have HB := Aside0.mk (Below.refl w.heap.size w)
  cases t with
  | false =>
    rw [if_neg (by decide)] at h
    obtain ⟨rfl, rfl⟩ := Prod.mk.inj (Option.some.inj h)
    clear h ht hr1 hc1
    go_enter Try.func32, Try.ntmps32
    go_wp2_with (go_at_call 64; refine (HW.out).mono ?_; rintro e w' ⟨rfl, hb⟩; have HB := Aside0.mk hb; clear hb)
    go_ret2
    exact ⟨rfl, HB.out⟩
  | true =>
    rw [if_pos rfl] at h
    obtain ⟨⟨ha, hb⟩, ⟨hc, hd⟩, _⟩ := impl_isWeighed_true a0 l1 ht
    obtain ⟨hq, rfl⟩ := Prod.mk.inj (Option.some.inj h)
    obtain ⟨e, rfl⟩ : ∃ m : Nat, a0 = m := ⟨a0.toNat, by omega⟩
    rw [Int.toNat_natCast] at hq
    have HR1 := Aside0.mk hr1
    have HP := Aside0.mk (fun (g : Nat) (W : World) (hR : IsReaches W g) (n b : Int) (h1 : 0 ≤ n) (h2 : n ≤ 1000) (h3 : 0 ≤ b) (h4 : b ≤ 1000) =>
      play_calls 43 #[.pointer (some ⟨g, 0, none⟩)] #[] bestF e n b W (by omega) (by omega) h1 h2 h3 h4 (enters_ Try.func43 (by kernel_rfl) rfl) bestF_range bestF_one
          (fun W2 e n hW h1 h2 h3 h4 => (best_calls g e n W2 h1 h2 h3 h4 (IsReaches.below hR hW)).mono fun e' w' hh => ⟨hh.1, by obtain ⟨m, hm⟩ := hh.2; rw [hm]; exact pw_below_drewN (Below.refl _ _) _⟩))
    obtain ⟨n, hn⟩ : ∃ n, l1.length = n := ⟨_, rfl⟩
    have HN := Aside0.mk hn
    rw [hn] at hc hd hq HW ⊢
    have HS := Aside0.mk hq
    clear hn hq h ht hr1 hc1
    go_enter Try.func32, Try.ntmps32
    go_wp2_with (first
      | (go_at_call 64; refine (HW.out).mono ?_; rintro e w' ⟨rfl, hb⟩; have HB := Aside0.mk hb; clear hb)
      | (go_at_call 42; refine (newReaches_calls _).mono ?_; rintro e w' ⟨g, rfl, hR, hg, hb⟩; have HR := Aside0.mk hR; have HB := Aside0.mk (below_step HB.out hb); clear hR hb hg))
    go_loopg [6, 8, 9, 17] n (fun gg v6 _ _ v17 wr => ∃ (kk : Nat) (s : Int), kk ≤ n ∧ n - kk ≤ gg ∧ v17 = .int .i64 kk ∧ v6 = .int .i64 s ∧ Aside0 (spL e ((n : Int) - 1) (l1.drop kk) kk s = r1) ∧ Aside0 (IsReaches wr g) ∧ Aside0 (Below w.heap.size w wr))
    case atStart => exact ⟨0, 0, Nat.zero_le _, by omega, rfl, rfl, HS, HR, HB⟩
    case round =>
      clear HS HR HB
      obtain ⟨kk, s, hkk, hg, rfl, rfl, HS, HR, HB⟩ := hrel
      by_cases hlt : kk < n
      · have hltz : (kk : Int) < (n : Int) := by omega
        obtain ⟨ad, e', hx⟩ := Kd.at_int (HN.out ▸ HR1.out) (kk : Int) (by omega) hltz
        cases e'
        replace hx := (HB.out.cell (World.block_lt_of_cell? w _ hx)).trans hx
        rw [Int.toNat_natCast] at hx
        have hs := HS.out
        rw [drop_rd_ l1 kk (by rw [HN.out]; exact hlt), spL] at hs
        have hp := HP.out g wr HR.out ((n : Int) - 1) kk (by omega) (by omega) (by omega) (by omega)
        have hlen := playF_len bestF kk ((n : Int) - 1).toNat e ((n : Int) - 1) 0 []
        generalize playF bestF kk ((n : Int) - 1).toNat e ((n : Int) - 1) 0 [] = L at hs hp hlen
        have HP2 := Aside0.mk hp
        have HS2 := Aside0.mk hs
        clear hp hs HS
        generalize rd l1 (kk : Int) = y at hx HS2
        go_wp2_with (go_at_call 41; refine (HP2.out).mono ?_; rintro e_ w9 ⟨v, rfl, hr, hb⟩; have HR := Aside0.mk (IsReaches.below HR.out hb); have HB := Aside0.mk (below_step HB.out hb); obtain ⟨A_, c_, hv_⟩ := Kd.R_slice hr; subst hv_; clear hr hb)
        go_roundg (n - (kk + 1))
        case measure => omega
        case rel => exact ⟨kk + 1, wrap64 (s + wrap64 (y * (L.length : Int))), by omega, by omega, by go_num, rfl, ⟨by have := HS2.out; rw [show ((kk + 1 : Nat) : Int) = (kk : Int) + 1 by omega]; exact this⟩, HR, HB⟩
      · have hltz : ¬ (kk : Int) < (n : Int) := by omega
        have hkn : kk = n := by omega
        have HF : Aside0 (s = r1) := ⟨by rw [← HS.out, List.drop_of_length_le (by rw [HN.out]; omega)]; rfl⟩
        clear hkn
        go_wp2
        go_ret2
        exact ⟨by rw [← HF.out]; rfl, HB.out⟩


/-! ### laws_FnExactSumOfPlay: function 9, a law -/
/-- THE ONE PURE STATEMENT of laws_FnExactSumOfPlay. -/
def laws_FnExactSumOfPlay.Pure : Prop := ∀ (a0 : Int) (l1 : List Int), (Lit.int .i64 a0).wf = true → (∀ x ∈ l1, (Lit.int .i64 x).wf = true) → l1.length ≤ 1000000 → ∃ (k1 : Nat) (r1 : Int) (r2 : Bool), spec_SumOfPlay.f k1 a0 l1 = some (r1, r2) ∧ impl_SumOfPlay.f a0 l1 = some (r1, r2)
set_option maxHeartbeats 8000000 in
set_option maxRecDepth 100000 in
theorem laws_FnExactSumOfPlay.alike (k1 : Nat) (a0 : Int) (A1 : Option Addr) (c1 : Nat) (l1 : List Int) (r1 : Int) (r2 : Bool) (w : World) (hr1 : Kd.C (Kd.int .i64) w A1 l1.length l1) (hc1 : l1.length ≤ c1) (hl : l1.length ≤ 1000000) (hs : spec_SumOfPlay.f k1 a0 l1 = some (r1, r2)) (hi : impl_SumOfPlay.f a0 l1 = some (r1, r2)) :
    Calls Try.prog 9 #[.int .i64 a0, .slice A1 l1.length c1] w fun e w' => e = .returned (.bool true) ∧ Below w.heap.size w w' := by
  have HR1 := Aside0.mk hr1
  have HC1 := Aside0.mk hc1
  clear hr1 hc1
  have HL1 : Aside0 (l1.length ≤ 1000000) := ⟨by omega⟩
  have HS := Aside0.mk hs
  have HI := Aside0.mk hi
  clear hs hi
  have HB := Aside0.mk (Below.refl w.heap.size w)
  go_enter Try.func9, Try.ntmps9
  go_wp2_with fail
  refine (toIntS_full _ c1 l1 _ (Kd.C_below HR1.out HB.out) HL1.out).mono ?_
  rintro e w1_ ⟨g3_, c4_, rfl, hf, hb⟩
  have HB0 : Aside0 (w.heap.size ≤ w.heap.size) := ⟨HB.out.size⟩
  have HZ1 : Aside0 (w.heap.size ≤ w1_.heap.size) := ⟨hb.size⟩
  have HB_ := Aside0.mk (below_step HB.out hb)
  clear HB hb
  have HB := HB_
  clear HB_
  have F2_ := Aside0.mk (show FullG w1_ w.heap.size (Btw w.heap.size w1_.heap.size) _ _ _ from r_btw hf (by have := HB0.out; exact this))
  clear hf HB0
  go_wp2_with fail
  refine (spec_SumOfPlay.calls k1 a0 (some ⟨g3_, 0, none⟩) c4_ l1 r1 r2 _ (FullG.reads F2_.out).2 (FullG.reads F2_.out).1 HS.out).mono ?_
  rintro e w2_ ⟨rfl, hb⟩
  have HB0 : Aside0 (w.heap.size ≤ w1_.heap.size) := ⟨HB.out.size⟩
  have HZ2 : Aside0 (w1_.heap.size ≤ w2_.heap.size) := ⟨hb.size⟩
  have F2__ := Aside0.mk (FullG.below F2_.out hb)
  clear F2_
  have F2_ := F2__
  clear F2__
  have HB_ := Aside0.mk (below_step HB.out hb)
  clear HB hb
  have HB := HB_
  clear HB_
  clear HB0
  go_wp2_with fail
  refine (toIntS_full _ c1 l1 _ (Kd.C_below HR1.out HB.out) HL1.out).mono ?_
  rintro e w3_ ⟨g6_, c7_, rfl, hf, hb⟩
  have HB0 : Aside0 (w.heap.size ≤ w2_.heap.size) := ⟨HB.out.size⟩
  have HZ3 : Aside0 (w2_.heap.size ≤ w3_.heap.size) := ⟨hb.size⟩
  have F2__ := Aside0.mk (FullG.below F2_.out hb)
  clear F2_
  have F2_ := F2__
  clear F2__
  have HB_ := Aside0.mk (below_step HB.out hb)
  clear HB hb
  have HB := HB_
  clear HB_
  have F5_ := Aside0.mk (show FullG w3_ w.heap.size (Btw w2_.heap.size w3_.heap.size) _ _ _ from r_btw hf (by have := HB0.out; exact this))
  clear hf HB0
  go_wp2_with fail
  refine (impl_SumOfPlay.calls a0 (some ⟨g6_, 0, none⟩) c7_ l1 r1 r2 _ (FullG.reads F5_.out).2 (FullG.reads F5_.out).1 HI.out).mono ?_
  rintro e w4_ ⟨rfl, hb⟩
  have HB0 : Aside0 (w.heap.size ≤ w3_.heap.size) := ⟨HB.out.size⟩
  have HZ4 : Aside0 (w3_.heap.size ≤ w4_.heap.size) := ⟨hb.size⟩
  have F2__ := Aside0.mk (FullG.below F2_.out hb)
  clear F2_
  have F2_ := F2__
  clear F2__
  have F5__ := Aside0.mk (FullG.below F5_.out hb)
  clear F5_
  have F5_ := F5__
  clear F5__
  have HB_ := Aside0.mk (below_step HB.out hb)
  clear HB hb
  have HB := HB_
  clear HB_
  clear HB0
  go_wp2_with fail
  refine (toIntS_full _ c1 l1 _ (Kd.C_below HR1.out HB.out) HL1.out).mono ?_
  rintro e w5_ ⟨g10_, c11_, rfl, hf, hb⟩
  have HB0 : Aside0 (w.heap.size ≤ w4_.heap.size) := ⟨HB.out.size⟩
  have HZ5 : Aside0 (w4_.heap.size ≤ w5_.heap.size) := ⟨hb.size⟩
  have F2__ := Aside0.mk (FullG.below F2_.out hb)
  clear F2_
  have F2_ := F2__
  clear F2__
  have F5__ := Aside0.mk (FullG.below F5_.out hb)
  clear F5_
  have F5_ := F5__
  clear F5__
  have HB_ := Aside0.mk (below_step HB.out hb)
  clear HB hb
  have HB := HB_
  clear HB_
  have F9_ := Aside0.mk (show FullG w5_ w.heap.size (Btw w4_.heap.size w5_.heap.size) _ _ _ from r_btw hf (by have := HB0.out; exact this))
  clear hf HB0
  go_wp2_with fail
  refine (intactIntS_full _ _ _ _ _ _ _ _ _ _ F5_.out F9_.out HL1.out).mono ?_
  rintro e w6_ ⟨rfl, hd⟩
  have hb := hd.below
  clear hd
  have HZ6 : Aside0 (w5_.heap.size ≤ w6_.heap.size) := ⟨hb.size⟩
  have F2__ := Aside0.mk (FullG.below F2_.out hb)
  clear F2_
  have F2_ := F2__
  clear F2__
  have F5__ := Aside0.mk (FullG.below F5_.out hb)
  clear F5_
  have F5_ := F5__
  clear F5__
  have F9__ := Aside0.mk (FullG.below F9_.out hb)
  clear F9_
  have F9_ := F9__
  clear F9__
  have HB_ := Aside0.mk (below_step HB.out hb)
  clear HB hb
  have HB := HB_
  clear HB_
  go_wp2_with fail
  refine (toIntS_bare _ c1 l1 _ (Kd.C_below HR1.out HB.out) HL1.out).mono ?_
  rintro e w7_ ⟨A16_, c15_, rfl, hf, hb⟩
  have HB0 : Aside0 (w.heap.size ≤ w6_.heap.size) := ⟨HB.out.size⟩
  have HZ7 : Aside0 (w6_.heap.size ≤ w7_.heap.size) := ⟨hb.size⟩
  have F2__ := Aside0.mk (FullG.below F2_.out hb)
  clear F2_
  have F2_ := F2__
  clear F2__
  have F5__ := Aside0.mk (FullG.below F5_.out hb)
  clear F5_
  have F5_ := F5__
  clear F5__
  have F9__ := Aside0.mk (FullG.below F9_.out hb)
  clear F9_
  have F9_ := F9__
  clear F9__
  have HB_ := Aside0.mk (below_step HB.out hb)
  clear HB hb
  have HB := HB_
  clear HB_
  have F13_ := Aside0.mk (r_btw (b0 := w.heap.size) hf (by have := HB0.out; exact this))
  clear hf HB0
  go_wp2_with fail
  refine (impl_SumOfPlay.calls a0 A16_ c15_ l1 r1 r2 _ (Kd.R_reads' F13_.out).2.2 (Kd.R_reads' F13_.out).2.1 HI.out).mono ?_
  rintro e w8_ ⟨rfl, hb⟩
  have HB0 : Aside0 (w.heap.size ≤ w7_.heap.size) := ⟨HB.out.size⟩
  have HZ8 : Aside0 (w7_.heap.size ≤ w8_.heap.size) := ⟨hb.size⟩
  have F2__ := Aside0.mk (FullG.below F2_.out hb)
  clear F2_
  have F2_ := F2__
  clear F2__
  have F5__ := Aside0.mk (FullG.below F5_.out hb)
  clear F5_
  have F5_ := F5__
  clear F5__
  have F9__ := Aside0.mk (FullG.below F9_.out hb)
  clear F9_
  have F9_ := F9__
  clear F9__
  have F13__ := Aside0.mk (Kd.R_below F13_.out hb)
  clear F13_
  have F13_ := F13__
  clear F13__
  have HB_ := Aside0.mk (below_step HB.out hb)
  clear HB hb
  have HB := HB_
  clear HB_
  clear HB0
  go_wp2
  go_ret
  exact ⟨rfl, HB.out⟩
set_option maxHeartbeats 4000000 in
set_option maxRecDepth 100000 in
theorem laws_FnExactSumOfPlay.walk (P : laws_FnExactSumOfPlay.Pure) (a0 : Int) (a1 : Option Addr) (len1 cap1 : Nat) (z1 : List Int) (w : World) (w0 : (Lit.int .i64 a0).wf = true) (w1 : (a1 = none ∧ len1 = 0 ∧ cap1 = 0 ∧ z1 = []) ∨ ∃ x, a1 = some x ∧ len1 ≤ cap1 ∧ cap1 ≤ maxLen ∧ z1.length = cap1 ∧ (∀ i, i < z1.length → w.cell? (x.add i) = some (.int .i64 (z1.getD i 0))) ∧ ∀ n ∈ z1, (Lit.int .i64 n).wf = true) (y1 : len1 * 8 ≤ 140737488351232) :
    Calls Try.prog 9 #[.int .i64 a0, .slice a1 len1 cap1] w fun e w' => e = .returned (.bool true) ∧ Below w.heap.size w w' := by
  obtain ⟨l1, rfl, hr1, hm1, hw1, hc1⟩ := ReadsInt.ofRowC w1
  by_cases hl : l1.length ≤ 1000000
  · obtain ⟨k1, r1, r2, hs, hi⟩ := P a0 l1 w0 hw1 hl
    exact laws_FnExactSumOfPlay.alike k1  a0 _ _ l1 r1 r2 w (Kd.C_of_reads (d := (0 : Int)) (h1 := fun _ => rfl) hr1) hc1 hl hs hi
  · clear hr1 hc1
    go_enter Try.func9, Try.ntmps9
    go_wp2
    go_ret
    exact ⟨rfl, Below.refl _ _⟩


end Go.Proofs.Ytiahedkmlacpkaa.PrintZ
