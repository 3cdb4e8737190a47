-- written by this session's own driver (wip/gen.py) with the kit's print and contracts of our own
import Derived.Test.YtbiibhfcclfoiaaPrintA0
import Derived.Test.YtbiibhfcclfoiaaPrintA1
import Derived.Test.YtbiibhfcclfoiaaPrintA9
import Derived.Test.YtbiibhfcclfoiaaPrintA18
import Derived.Test.YtbiibhfcclfoiaaPrintA20
import Derived.Test.YtbiibhfcclfoiaaPrintA21
import Derived.Test.YtbiibhfcclfoiaaPrintA22
namespace Go.Proofs.Ytbiibhfcclfoiaa.PrintA
open Go.RowKit Go.Proofs.YtbiibhfcclfoiaaLib Go.Proofs.YtbiibhfcclfoiaaW.PrintWords Go.Proofs.YtbiibhfcclfoiaaW.PrintLast Go.Proofs.YtbiibhfcclfoiaaW.PrintMore
attribute [local go_sem] max2_int min2_int max_two min_two max_three min_three max_four min_four   -- for this text's walks alone
set_option linter.unusedVariables false
set_option linter.unusedSimpArgs false

/-! behind laws_heldIntSS -/
theorem heldIntS_big (n : Nat) (k0 : Int) (hk0 : 0 ≤ k0) (hk1 : k0 ≤ 1000000000) (hl : n ≤ 1000000) (k : Nat) (hk : n < k) : laws_heldIntS.f k (upL n k0) k0 = some (k0 + n) := by
  unfold laws_heldIntS.f
  have := heldIntS_l0 n k0 hk0 hk1 hl n k 0 (by omega) (by omega) hk
  simpa using this
theorem upSS_get : ∀ (l : List (List Int)) (k : Int) (i : Nat), i < l.length → (upSS l k).getD i [] = upL (l.getD i []).length (k + (l.take i).flatten.length)
  | r :: s, k, 0, _ => by simp [upSS]
  | r :: s, k, i + 1, h => by
    rw [upSS, List.getD_cons_succ, upSS_get s _ i (by simpa using h), List.getD_cons_succ, List.take_succ_cons, List.flatten_cons, List.length_append]
    congr 1
    omega
theorem heldIntSS_l0 (l : List (List Int)) (k0 : Int) (hk0 : 0 ≤ k0) (hk1 : k0 ≤ 1000000) (hl : l.length + l.flatten.length ≤ 1000000) : ∀ (d k : Nat) (i : Nat), i ≤ l.length → l.length - i = d → d + 1000001 < k →
    laws_heldIntSS.l0 k (upSS l k0) (k0 + (l.take i).flatten.length) (i : Int) = some (k0 + l.flatten.length) := by
  intro d
  induction d with
  | zero =>
    intro k i h1 hd hk
    obtain ⟨k, rfl⟩ : ∃ m, k = m + 1 := ⟨k - 1, by omega⟩
    obtain rfl : i = l.length := by omega
    rw [laws_heldIntSS.l0, upSS_len, if_neg (by omega), List.take_length]
  | succ d ih =>
    intro k i h1 hd hk
    obtain ⟨k, rfl⟩ : ∃ m, k = m + 1 := ⟨k - 1, by omega⟩
    have hi : i < l.length := by omega
    have e : wrap64 ((i : Int) + 1) = ((i + 1 : Nat) : Int) := by unfold wrap64; omega
    have hr : rd_L1 (upSS l k0) (i : Int) = upL (l.getD i []).length (k0 + (l.take i).flatten.length) := by
      rw [← upSS_get l k0 i hi]; simp [rd_L1]
    have hm := flat_more l i hi
    have hp := flat_part l (i + 1)
    rw [laws_heldIntSS.l0, upSS_len, if_pos (by clear e; omega), if_pos (by clear e; omega), hr, heldIntS_big _ _ (by clear e; omega) (by clear e; omega) (by clear e; omega) k (by clear e; omega), Option.bind_some, if_neg (by clear e; omega), e]
    rw [show k0 + ((l.take i).flatten.length : Int) + ((l.getD i []).length : Int) = k0 + ((l.take (i + 1)).flatten.length : Int) by clear e; omega]
    exact ih k (i + 1) (by clear e; omega) (by clear e; omega) (by clear e; omega)
theorem heldIntSS_own (ok : Nat → Prop) (A : Option Addr) (l : List (List Int)) (c : Nat) (k0 : Int) (b : Nat) (w : World) (hR : Kd.S (Kd.slice 3 (Kd.int .i64)) 25 w b ok (.slice A l.length c) (upSS l k0)) (hl : l.length + l.flatten.length ≤ 1000000) (hk0 : 0 ≤ k0) (hk1 : k0 ≤ 1000000) :
    Calls Try.prog 20 #[.slice A l.length c, .int .i64 k0] w fun e w' => e = .returned (.int .i64 (k0 + l.flatten.length)) ∧ Drawn0 w w' := by
  obtain ⟨_, h2, h3⟩ := Kd.S_reads' hR
  have h := laws_heldIntSS.calls 3000000 A c (upSS l k0) k0 (k0 + l.flatten.length) w h3 (by rw [upSS_len]; exact h2) (by
    unfold laws_heldIntSS.f
    have := heldIntSS_l0 l k0 hk0 hk1 hl l.length 3000000 0 (by omega) (by omega) (by omega)
    simpa using this)
  rw [upSS_len] at h
  exact h


/-! ### laws_FnExactPlayRounds: function 6, a law -/
/-- THE ONE PURE STATEMENT of laws_FnExactPlayRounds. -/
def laws_FnExactPlayRounds.Pure : Prop := ∀ (a0 : Int) (a1 : Int) (a2 : Int) (a3 : Int), (Lit.int .i64 a0).wf = true → (Lit.int .i64 a1).wf = true → (Lit.int .i64 a2).wf = true → (Lit.int .i64 a3).wf = true → ∃ (r1 : List (List Int)) (r2 : Bool), spec_PlayRounds.f a0 a1 a2 a3 = some (r1, r2) ∧ impl_PlayRounds.f a0 a1 a2 a3 = some (r1, r2) ∧ r1.length + r1.flatten.length ≤ 1000000
set_option maxHeartbeats 8000000 in
set_option maxRecDepth 100000 in
theorem laws_FnExactPlayRounds.alike (a0 : Int) (a1 : Int) (a2 : Int) (a3 : Int) (r1 : List (List Int)) (r2 : Bool) (w : World)  (hs : spec_PlayRounds.f a0 a1 a2 a3 = some (r1, r2)) (hi : impl_PlayRounds.f a0 a1 a2 a3 = some (r1, r2)) (hb_r1 : r1.length + r1.flatten.length ≤ 1000000) :
    Calls Try.prog 6 #[.int .i64 a0, .int .i64 a1, .int .i64 a2, .int .i64 a3] w fun e w' => e = .returned (.bool true) ∧ Below w.heap.size w w' := by
  have HBD_r1 := Aside0.mk hb_r1
  clear hb_r1
  have HS := Aside0.mk hs
  have HI := Aside0.mk hi
  clear hs hi
  have HB := Aside0.mk (Below.refl w.heap.size w)
  go_enter Try.func6, Try.ntmps6
  go_wp2_with fail
  refine (spec_PlayRounds.calls a0 a1 a2 a3 r1 r2 _  HS.out).mono ?_
  rintro e w1_ ⟨v1_, rfl, ho0, hb⟩
  have HB0 : Aside0 (w.heap.size ≤ w.heap.size) := ⟨HB.out.size⟩
  have HZ1 : Aside0 (w.heap.size ≤ w1_.heap.size) := ⟨hb.size⟩
  have HB_ := Aside0.mk (below_step HB.out hb)
  clear HB hb
  have HB := HB_
  clear HB_
  obtain ⟨A3_, c4_, hv_⟩ := Kd.R_slice ho0
  subst hv_
  have R2_ := Aside0.mk (r_btw (b0 := w.heap.size) ho0 (by have := HB0.out; exact this))
  clear ho0
  clear HB0
  go_wp2_with fail
  refine (impl_PlayRounds.callsS a0 a1 a2 a3 r1 r2 _  HI.out).mono ?_
  rintro e w2_ ⟨v5_, rfl, ho0, hb⟩
  have HB0 : Aside0 (w.heap.size ≤ w1_.heap.size) := ⟨HB.out.size⟩
  have HZ2 : Aside0 (w1_.heap.size ≤ w2_.heap.size) := ⟨hb.size⟩
  have R2__ := Aside0.mk (Kd.R_below R2_.out hb)
  clear R2_
  have R2_ := R2__
  clear R2__
  have HB_ := Aside0.mk (below_step HB.out hb)
  clear HB hb
  have HB := HB_
  clear HB_
  obtain ⟨A7_, c8_, hv_⟩ := Kd.S_slice ho0
  subst hv_
  have R6_ := Aside0.mk (s_btw (b0 := w.heap.size) ho0 (by have := HB0.out; exact this))
  clear ho0
  clear HB0
  go_wp2_with fail
  refine (eqIntSS_alike _ _ _ _ _ _ (Kd.S_reads' R6_.out).2.2 (Kd.S_reads' R6_.out).2.1 (Kd.R_reads' R2_.out).2.2 (Kd.R_reads' R2_.out).2.1 HBD_r1.out).mono ?_
  rintro e w3_ ⟨rfl, hb⟩
  have HZ3 : Aside0 (w2_.heap.size ≤ w3_.heap.size) := ⟨hb.size⟩
  have R2__ := Aside0.mk (Kd.R_below R2_.out hb)
  clear R2_
  have R2_ := R2__
  clear R2__
  have R6__ := Aside0.mk (Kd.S_below R6_.out hb)
  clear R6_
  have R6_ := R6__
  clear R6__
  have HB_ := Aside0.mk (below_step HB.out hb)
  clear HB hb
  have HB := HB_
  clear HB_
  go_wp2_with fail
  refine (markIntSS_own _ _ _ _ _ 101 _ _ HB.out rfl R6_.out HBD_r1.out (by omega) (by omega)).mono ?_
  rintro e w4_ ⟨rfl, hr, hB, hk⟩
  have HZ4 : Aside0 (w3_.heap.size ≤ w4_.heap.size) := ⟨hk.1⟩
  have R2__ := Aside0.mk (r_keep R2_.out hk (fun k h1 h2 => btw_ne h1 h2 (Nat.le_refl _)))
  clear R2_
  have R2_ := R2__
  clear R2__
  clear R6_
  clear HB hk
  have HB := Aside0.mk hB
  clear hB
  have M9_ := Aside0.mk hr
  clear hr
  go_wp2_with fail
  refine (heldIntSS_own _ _ _ _ 101 _ _ M9_.out HBD_r1.out (by omega) (by omega)).mono ?_
  rintro e w5_ ⟨rfl, hd⟩
  have hb := hd.below
  clear hd
  have HZ5 : Aside0 (w4_.heap.size ≤ w5_.heap.size) := ⟨hb.size⟩
  have R2__ := Aside0.mk (Kd.R_below R2_.out hb)
  clear R2_
  have R2_ := R2__
  clear R2__
  have M9__ := Aside0.mk (Kd.S_below M9_.out hb)
  clear M9_
  have M9_ := M9__
  clear M9__
  have HB_ := Aside0.mk (below_step HB.out hb)
  clear HB hb
  have HB := HB_
  clear HB_
  go_wp2_with fail
  refine (impl_PlayRounds.callsS a0 a1 a2 a3 r1 r2 _  HI.out).mono ?_
  rintro e w6_ ⟨v10_, rfl, ho0, hb⟩
  have HB0 : Aside0 (w.heap.size ≤ w5_.heap.size) := ⟨HB.out.size⟩
  have HZ6 : Aside0 (w5_.heap.size ≤ w6_.heap.size) := ⟨hb.size⟩
  have R2__ := Aside0.mk (Kd.R_below R2_.out hb)
  clear R2_
  have R2_ := R2__
  clear R2__
  have M9__ := Aside0.mk (Kd.S_below M9_.out hb)
  clear M9_
  have M9_ := M9__
  clear M9__
  have HB_ := Aside0.mk (below_step HB.out hb)
  clear HB hb
  have HB := HB_
  clear HB_
  obtain ⟨A12_, c13_, hv_⟩ := Kd.S_slice ho0
  subst hv_
  have R11_ := Aside0.mk (s_btw (b0 := w.heap.size) ho0 (by have := HB0.out; exact this))
  clear ho0
  clear HB0
  go_wp2_with fail
  refine (eqIntSS_alike _ _ _ _ _ _ (Kd.S_reads' R11_.out).2.2 (Kd.S_reads' R11_.out).2.1 (Kd.R_reads' R2_.out).2.2 (Kd.R_reads' R2_.out).2.1 HBD_r1.out).mono ?_
  rintro e w7_ ⟨rfl, hb⟩
  have HZ7 : Aside0 (w6_.heap.size ≤ w7_.heap.size) := ⟨hb.size⟩
  have R2__ := Aside0.mk (Kd.R_below R2_.out hb)
  clear R2_
  have R2_ := R2__
  clear R2__
  have M9__ := Aside0.mk (Kd.S_below M9_.out hb)
  clear M9_
  have M9_ := M9__
  clear M9__
  have R11__ := Aside0.mk (Kd.S_below R11_.out hb)
  clear R11_
  have R11_ := R11__
  clear R11__
  have HB_ := Aside0.mk (below_step HB.out hb)
  clear HB hb
  have HB := HB_
  clear HB_
  go_wp2_with fail
  refine (heldIntSS_own _ _ _ _ 101 _ _ M9_.out HBD_r1.out (by omega) (by omega)).mono ?_
  rintro e w8_ ⟨rfl, hd⟩
  have hb := hd.below
  clear hd
  have HZ8 : Aside0 (w7_.heap.size ≤ w8_.heap.size) := ⟨hb.size⟩
  have R2__ := Aside0.mk (Kd.R_below R2_.out hb)
  clear R2_
  have R2_ := R2__
  clear R2__
  have M9__ := Aside0.mk (Kd.S_below M9_.out hb)
  clear M9_
  have M9_ := M9__
  clear M9__
  have R11__ := Aside0.mk (Kd.S_below R11_.out hb)
  clear R11_
  have R11_ := R11__
  clear R11__
  have HB_ := Aside0.mk (below_step HB.out hb)
  clear HB hb
  have HB := HB_
  clear HB_
  go_wp2
  go_ret
  exact ⟨rfl, HB.out⟩
set_option maxHeartbeats 4000000 in
set_option maxRecDepth 100000 in
theorem laws_FnExactPlayRounds.walk (P : laws_FnExactPlayRounds.Pure) (a0 : Int) (a1 : Int) (a2 : Int) (a3 : Int) (w : World) (w0 : (Lit.int .i64 a0).wf = true) (w1 : (Lit.int .i64 a1).wf = true) (w2 : (Lit.int .i64 a2).wf = true) (w3 : (Lit.int .i64 a3).wf = true) :
    Calls Try.prog 6 #[.int .i64 a0, .int .i64 a1, .int .i64 a2, .int .i64 a3] w fun e w' => e = .returned (.bool true) ∧ Below w.heap.size w w' := by
  obtain ⟨r1, r2, hs, hi, hb_r1⟩ := P a0 a1 a2 a3 w0 w1 w2 w3
  exact laws_FnExactPlayRounds.alike  a0 a1 a2 a3 r1 r2 w  hs hi hb_r1


end Go.Proofs.Ytbiibhfcclfoiaa.PrintA
