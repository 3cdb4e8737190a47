-- written by this session's own driver (wip/gen.py) with the kit's print and contracts of our own
import Derived.Test.YtkflioekhadebaaPrintA0
import Derived.Test.YtkflioekhadebaaPrintA1
import Derived.Test.YtkflioekhadebaaPrintA3
import Derived.Test.YtkflioekhadebaaPrintA4
import Derived.Test.YtkflioekhadebaaPrintA14
import Derived.Test.YtkflioekhadebaaPrintA15
import Derived.Test.YtkflioekhadebaaPrintA16
namespace Go.Proofs.Ytkflioekhadebaa.PrintA
open Go.RowKit Go.Proofs.YtkflioekhadebaaLib Go.Proofs.YtkflioekhadebaaW.PrintWords Go.Proofs.YtkflioekhadebaaW.PrintLast Go.Proofs.YtkflioekhadebaaW.PrintMore
attribute [local go_sem] max2_int min2_int max_two min_two max_three min_three max_four min_four   -- for this text's walks alone
set_option linter.unusedVariables false
set_option linter.unusedSimpArgs false

/-! behind laws_eqHouseDropS -/
theorem eqHouseDropS_l0 (L : List S47) (hL : L.length ≤ 100000000) : ∀ (d k : Nat) (i : Int), 0 ≤ i → i ≤ L.length → (L.length : Int) - i = d → d < k → laws_eqHouseDropS.l0 k L L i = some true := by
  intro d
  induction d with
  | zero =>
    intro k i h0 h1 hd hk
    obtain ⟨k, rfl⟩ : ∃ m, k = m + 1 := ⟨k - 1, by omega⟩
    simp only [laws_eqHouseDropS.l0]; rw [if_neg (by omega)]
  | succ d ih =>
    intro k i h0 h1 hd hk
    obtain ⟨k, rfl⟩ : ∃ m, k = m + 1 := ⟨k - 1, by omega⟩
    have hlt : i < (L.length : Int) := by omega
    have e : wrap64 (i + 1) = i + 1 := by unfold wrap64; omega
    have q : ∀ (a b : Int) (c : Bool), laws_eqHouseDrop.f a b c a b c = some true := fun a b c => by unfold laws_eqHouseDrop.f; simp
    simp only [laws_eqHouseDropS.l0]
    rw [if_pos hlt, if_pos h0, if_pos hlt, q, Option.bind_some, if_pos rfl, e]
    exact ih k (i + 1) (by omega) (by omega) (by omega) (by omega)
theorem eqHouseDropS_same (L : List S47) (hL : L.length ≤ 100000000) : laws_eqHouseDropS.f (L.length + 1) L L = some true := by
  unfold laws_eqHouseDropS.f
  rw [if_pos rfl]
  exact eqHouseDropS_l0 L hL L.length (L.length + 1) 0 (by omega) (by omega) (by omega) (by omega)

/-! ### laws_intactHouseDropS: function 23, a contract of our own -/
set_option maxHeartbeats 4000000 in
set_option maxRecDepth 100000 in
theorem intactHouseDropS_full (w : World) (b1 b2 : Nat) (o1 o2 : Nat → Prop) (g1 c1 g2 c2 : Nat) (l : List S47) (hr1 : FullH w b1 o1 g1 c1 l) (hr2 : FullH w b2 o2 g2 c2 l) (hl : l.length ≤ 1000000) :
    Calls Try.prog 23 #[.slice (some ⟨g1, 0, none⟩) l.length c1, .slice (some ⟨g2, 0, none⟩) l.length c2] w fun e w' => e = .returned (.bool true) ∧ Below w.heap.size w w' := by
  obtain ⟨_, hc1, hC1⟩ := Kd.R_reads' hr1
  obtain ⟨_, hc2, hC2⟩ := Kd.R_reads' hr2
  clear hr1 hr2
  have hfl := fullH_length l
  have hro := roomN_le l.length
  have HQ := Aside0.mk (fun W hW1 hW2 => laws_eqHouseDropS.calls ((fullH l).length + 1) (some ⟨g1, 0, none⟩) c1 (fullH l) (some ⟨g2, 0, none⟩) c2 (fullH l) true W hW1 hc1 hW2 hc2 (eqHouseDropS_same _ (by omega)))
  have HRB := Aside0.mk (fun W => laws_roomBehind.calls0 (l.length : Int) (roomN l.length : Int) W (roomBehind_is _ hl))
  have H1 := Aside0.mk hC1
  have H2 := Aside0.mk hC2
  clear hC1 hC2
  rw [hfl] at HQ H1 H2 hc1 hc2
  clear hfl
  generalize roomN l.length = rn at HQ HRB hro H1 H2 hc1 hc2
  generalize l.length = n at HQ HRB hro H1 H2 hl hc1 hc2 ⊢
  obtain ⟨i0, hi, hzz⟩ := Option.map_eq_some_iff.1 info47
  have hcut1 := cut_cap (P := Try.prog) 33 47 .i64 Try.underlying33 hi (some ⟨g1, 0, none⟩) n c1 ((n : Int) + (rn : Int)) (by omega) (by omega)
  have hcut2 := cut_cap (P := Try.prog) 33 47 .i64 Try.underlying33 hi (some ⟨g2, 0, none⟩) n c2 ((n : Int) + (rn : Int)) (by omega) (by omega)
  have e0 : ((n : Int) + (rn : Int)).toNat = n + rn := by omega
  rw [e0] at hcut1 hcut2
  have hw5 : IntKind.i64.wrap ((n : Int) + (rn : Int)) = (n : Int) + (rn : Int) := by clear e0; rw [i64_w]; unfold wrap64; omega
  clear hzz hi e0 hc1 hc2
  go_enter Try.func23, Try.ntmps23
  go_wp2_with fail
  refine (HRB.out _).mono ?_
  rintro e w1 ⟨rfl, rfl⟩
  go_wp2
  refine start_ (n := 15) (S := fun w' => True) (ds := []) #[false, false, false, false, false, false, false, false, false, false, false, false, false, false, false] (by kernel_rfl) rfl rfl trivial (fun hHeld => ?_)
  refine pure_ (i := 0) (N := some 12) (v := ?_) (a' := ?_) #[true, false, false, false, false, false, false, false, false, false, false, false, false, false, false] rfl rfl (by kernel_rfl) (fun _ _ _ h => h) (Or.inl ⟨by rfl, ?_⟩) ?_ ?_
  rotate_left
  · intro w'
    go_simp
    with_reducible rfl
  rotate_left
  · simp only [Act.put, List.setIfInBounds_toArray, List.set_cons_zero, List.set_cons_succ, i64_w, i32_w]
    rfl
  refine pure_ (i := 1) (N := some 13) (v := ?_) (a' := ?_) #[true, true, false, false, false, false, false, false, false, false, false, false, false, false, false] rfl rfl (by kernel_rfl) (fun _ _ _ h => h) (Or.inl ⟨by rfl, ?_⟩) ?_ ?_
  rotate_left
  · intro w'
    go_simp
    with_reducible rfl
  rotate_left
  · simp only [Act.put, List.setIfInBounds_toArray, List.set_cons_zero, List.set_cons_succ, i64_w, i32_w]
    rfl
  refine pure_ (i := 2) (N := some 14) (v := ?_) (a' := ?_) #[true, true, true, false, false, false, false, false, false, false, false, false, false, false, false] rfl rfl (by kernel_rfl) (fun _ _ _ h => h) (Or.inl ⟨by rfl, ?_⟩) ?_ ?_
  rotate_left
  · intro w'
    go_simp
    with_reducible rfl
  rotate_left
  · simp only [Act.put, List.setIfInBounds_toArray, List.set_cons_zero, List.set_cons_succ, i64_w, i32_w]
    rfl
  refine pure_ (i := 3) (N := some 15) (v := ?_) (a' := ?_) #[true, true, true, true, false, false, false, false, false, false, false, false, false, false, false] rfl rfl (by kernel_rfl) (fun _ _ _ h => h) (Or.inl ⟨by rfl, ?_⟩) ?_ ?_
  rotate_left
  · intro w'
    go_simp
    with_reducible rfl
  rotate_left
  · simp only [Act.put, List.setIfInBounds_toArray, List.set_cons_zero, List.set_cons_succ, i64_w, i32_w]
    rfl
  refine pure_ (i := 4) (N := some 16) (v := ?_) (a' := ?_) #[true, true, true, true, true, false, false, false, false, false, false, false, false, false, false] rfl rfl (by kernel_rfl) (fun _ _ _ h => h) (Or.inl ⟨by rfl, ?_⟩) ?_ ?_
  rotate_left
  · intro w'
    go_simp
    with_reducible rfl
  rotate_left
  · simp only [Act.put, List.setIfInBounds_toArray, List.set_cons_zero, List.set_cons_succ, i64_w, i32_w]
    rfl
  refine pure_ (i := 5) (N := some 17) (v := ?_) (a' := ?_) #[true, true, true, true, true, true, false, false, false, false, false, false, false, false, false] rfl rfl (by kernel_rfl) (fun _ _ _ h => h) (Or.inl ⟨by rfl, ?_⟩) ?_ ?_
  rotate_left
  · intro w'
    go_simp
    with_reducible rfl
  rotate_left
  · simp only [Act.put, List.setIfInBounds_toArray, List.set_cons_zero, List.set_cons_succ, i64_w, i32_w]
    rfl
  refine pure_ (i := 6) (N := some 18) (v := ?_) (a' := ?_) #[true, true, true, true, true, true, true, false, false, false, false, false, false, false, false] rfl rfl (by kernel_rfl) (fun _ _ _ h => h) (Or.inl ⟨by rfl, ?_⟩) ?_ ?_
  rotate_left
  · intro w'
    go_simp
    with_reducible rfl
  rotate_left
  · simp only [Act.put, List.setIfInBounds_toArray, List.set_cons_zero, List.set_cons_succ, i64_w, i32_w]
    rfl
  refine pure_ (i := 7) (N := some 19) (v := ?_) (a' := ?_) #[true, true, true, true, true, true, true, true, false, false, false, false, false, false, false] rfl rfl (by kernel_rfl) (fun _ _ _ h => h) (Or.inl ⟨by rfl, ?_⟩) ?_ ?_
  rotate_left
  · intro w'
    go_simp
    with_reducible rfl
  rotate_left
  · simp only [Act.put, List.setIfInBounds_toArray, List.set_cons_zero, List.set_cons_succ, i64_w, i32_w]
    rfl
  refine pure_ (i := 8) (N := some 20) (v := ?_) (a' := ?_) #[true, true, true, true, true, true, true, true, true, false, false, false, false, false, false] rfl rfl (by kernel_rfl) (fun _ _ _ h => h) (Or.inl ⟨by rfl, ?_⟩) ?_ ?_
  rotate_left
  · intro w'
    go_simp
    with_reducible rfl
  rotate_left
  · simp only [Act.put, List.setIfInBounds_toArray, List.set_cons_zero, List.set_cons_succ, i64_w, i32_w]
    rfl
  refine pure_ (i := 9) (N := some 21) (v := ?_) (a' := ?_) #[true, true, true, true, true, true, true, true, true, true, false, false, false, false, false] rfl rfl (by kernel_rfl) (fun _ _ _ h => h) (Or.inl ⟨by rfl, ?_⟩) ?_ ?_
  rotate_left
  · intro w'
    go_simp
    with_reducible rfl
  rotate_left
  · simp only [Act.put, List.setIfInBounds_toArray, List.set_cons_zero, List.set_cons_succ, i64_w, i32_w]
    rfl
  refine pure_ (i := 10) (N := some 22) (v := ?_) (a' := ?_) #[true, true, true, true, true, true, true, true, true, true, true, false, false, false, false] rfl rfl (by kernel_rfl) (fun _ _ _ h => h) (Or.inl ⟨by rfl, ?_⟩) ?_ ?_
  rotate_left
  · intro w'
    go_simp
    with_reducible rfl
  rotate_left
  · simp only [Act.put, List.setIfInBounds_toArray, List.set_cons_zero, List.set_cons_succ, i64_w, i32_w]
    rfl
  refine pure_ (i := 11) (N := some 23) (v := ?_) (a' := ?_) #[true, true, true, true, true, true, true, true, true, true, true, true, false, false, false] rfl rfl (by kernel_rfl) (fun _ _ _ h => h) (Or.inl ⟨by rfl, ?_⟩) ?_ ?_
  rotate_left
  · intro w'
    go_simp
    with_reducible rfl
  rotate_left
  · simp only [Act.put, List.setIfInBounds_toArray, List.set_cons_zero, List.set_cons_succ, i64_w, i32_w]
    rfl
  refine one_ (i := 12) (N := some 24) #[true, true, true, true, true, true, true, true, true, true, true, true, true, false, false] rfl rfl (by kernel_rfl) (by decide) (fun K hK => ?_)
  refine goes_ Try.func44 (by kernel_rfl) rfl #[.slice (some ⟨g1, 0, none⟩) (n + rn) c1, .slice (some ⟨g2, 0, none⟩) (n + rn) c2] (by rfl) rfl rfl (by (try simp only [List.map_toArray, List.map_cons, List.map_nil]); first | done | rfl) ?_
  with_reducible refine (HQ.out _ ?side1 ?side2).mono ?_
  (case side1 => exact Kd.C_drew H1.out)
  (case side2 => exact Kd.C_drew H2.out)
  rintro _ w2 ⟨rfl, hb⟩
  refine ⟨_, rfl, ?_⟩
  have HBF := Aside0.mk (below_step (below_drew1 (Below.refl _ _)) hb)
  clear hb
  refine hK.out _ _ trivial (fun hHeld => ?_)
  clear hK K
  refine norm_ (a' := ?_) ?_ ?_
  rotate_left
  · show Act.put _ (some 24) _ = _
    simp only [Act.put, List.setIfInBounds_toArray, List.set_cons_zero, List.set_cons_succ, i64_w, i32_w]
    rfl
  refine pure_ (i := 13) (N := some 25) (v := ?_) (a' := ?_) #[true, true, true, true, true, true, true, true, true, true, true, true, true, true, false] rfl rfl (by kernel_rfl) (fun _ _ _ h => h) (Or.inl ⟨by rfl, ?_⟩) ?_ ?_
  rotate_left
  · intro w'
    go_simp
    with_reducible rfl
  rotate_left
  · simp only [Act.put, List.setIfInBounds_toArray, List.set_cons_zero, List.set_cons_succ, i64_w, i32_w]
    rfl
  refine pure_ (i := 14) (N := some 4) (v := ?_) (a' := ?_) #[true, true, true, true, true, true, true, true, true, true, true, true, true, true, true] rfl rfl (by kernel_rfl) (fun _ _ _ h => h) (Or.inl ⟨by rfl, ?_⟩) ?_ ?_
  rotate_left
  · intro w'
    go_simp
    with_reducible rfl
  rotate_left
  · simp only [Act.put, List.setIfInBounds_toArray, List.set_cons_zero, List.set_cons_succ, i64_w, i32_w]
    rfl
  refine done_ (by kernel_rfl) ?_
  go_wp2
  go_ret
  exact ⟨rfl, HBF.out⟩

end Go.Proofs.Ytkflioekhadebaa.PrintA
