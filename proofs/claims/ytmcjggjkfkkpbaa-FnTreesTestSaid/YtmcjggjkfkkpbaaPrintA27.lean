-- written by this session's own driver (wip/gen.py) with the kit's print and contracts of our own
import Derived.Test.YtmcjggjkfkkpbaaPrintA0
import Derived.Test.YtmcjggjkfkkpbaaPrintA2
import Derived.Test.YtmcjggjkfkkpbaaPrintA5
import Derived.Test.YtmcjggjkfkkpbaaPrintA6
import Derived.Test.YtmcjggjkfkkpbaaPrintA7
import Derived.Test.YtmcjggjkfkkpbaaPrintA9
import Derived.Test.YtmcjggjkfkkpbaaPrintA10
import Derived.Test.YtmcjggjkfkkpbaaPrintA11
import Derived.Test.YtmcjggjkfkkpbaaPrintA12
import Derived.Test.YtmcjggjkfkkpbaaPrintA14
import Derived.Test.YtmcjggjkfkkpbaaPrintA16
import Derived.Test.YtmcjggjkfkkpbaaPrintA20
import Derived.Test.YtmcjggjkfkkpbaaPrintA22
import Derived.Test.YtmcjggjkfkkpbaaPrintA23
import Derived.Test.YtmcjggjkfkkpbaaPrintA24
import Derived.Test.YtmcjggjkfkkpbaaPrintA25
import Derived.Test.YtmcjggjkfkkpbaaPrintA26
namespace Go.Proofs.Ytmcjggjkfkkpbaa.PrintA
open Go.RowKit Go.Proofs.YtmcjggjkfkkpbaaLib Go.Proofs.YtmcjggjkfkkpbaaW.PrintWords Go.Proofs.YtmcjggjkfkkpbaaW.PrintLast Go.Proofs.YtmcjggjkfkkpbaaW.PrintMore
attribute [local go_sem] max2_int min2_int max_two min_two max_three min_three max_four min_four   -- for this text's walks alone
set_option linter.unusedVariables false
set_option linter.unusedSimpArgs false

/-! behind spec_TreeDrops -/
theorem spec_TreeDrops_l0 : ∀ (t : Tr) (k : Nat) (x low : Int) (acc : List S42), 0 ≤ low → low + t.size ≤ 1000 → t.size < k → acc.length + t.size ≤ 1000 →
    spec_TreeDrops.l0 k (t.toL (low + 1)) x acc (low + 1) = some (dropsT t low x acc, true)
  | .nil, k, x, low, acc, _, _, hk, _ => by
    obtain ⟨k, rfl⟩ : ∃ m, k = m + 1 := ⟨k - 1, by omega⟩
    rw [spec_TreeDrops.l0, if_neg (by simp [Tr.toL])]; rfl
  | .node b a, k, x, low, acc, h0, h1, hk, ha => by
    obtain ⟨k, rfl⟩ : ∃ m, k = m + 1 := ⟨k - 1, by omega⟩
    have hln := Tr.toL_length (Tr.node b a) (low + 1)
    have hsz : (Tr.node b a).size = b.size + a.size + 1 := rfl
    have hr : rd ((Tr.node b a).toL (low + 1)) 0 = low + ((b.size : Int) + 1) := by simp only [Tr.toL, rd_cons0]; omega
    have e1 : wrap64 (1 + (b.size : Int)) = ((b.size + 1 : Nat) : Int) := by unfold wrap64; omega
    have e2 : wrap64 (low + ((b.size : Int) + 1) + 1) = low + ((b.size : Int) + 1) + 1 := by unfold wrap64; omega
    rw [spec_TreeDrops.l0, if_pos (by omega), if_pos (by omega), toL_split b a _ (by omega) (by omega) (by omega), Option.bind_some, if_pos (by omega), Option.bind_some, hr, e1, e2]
    simp only [dropsT]
    by_cases h : low + ((b.size : Int) + 1) > x
    · rw [if_pos h, if_pos h, if_pos (by omega), if_pos (by omega), Int.toNat_natCast, toL_take, decide_eq_true h]
      exact spec_TreeDrops_l0 b k x low _ h0 (by omega) (by omega) (by simp; omega)
    · rw [if_neg h, if_neg h, if_pos (by omega), if_pos (by omega), Int.toNat_natCast, toL_drop, decide_eq_false h, show low + 1 + (b.size : Int) + 1 = low + ((b.size : Int) + 1) + 1 by omega]
      exact spec_TreeDrops_l0 a k x _ _ (by omega) (by omega) (by omega) (by simp; omega)
theorem treeDrops_both (l : List Int) (x : Int) : ∃ r1 r2, impl_TreeDrops.f 300 l x = some (r1, r2) ∧ spec_TreeDrops.f 300 l x = some (r1, r2) ∧ r1.length ≤ 1000 := by
  have h1 := spec_trIs_is l 300 (by omega)
  have h2 := impl_IsTree_is l 300 (by omega)
  unfold spec_TreeDrops.f impl_TreeDrops.f
  by_cases g : (decide (l.length ≤ 30) && trOk 30 1 l) = true
  · rw [g] at h1 h2
    obtain ⟨t, rfl, ht⟩ := isTree_tr l g
    rw [Tr.toL_length]
    by_cases hx : (decide (0 ≤ x) && decide (x ≤ (t.size : Int))) = true
    · have hlen := dropsT_len t 0 x []
      have hle := t.lenT_le x
      rw [Int.sub_zero, List.length_nil, Nat.zero_add] at hlen
      refine ⟨dropsT t 0 x [], true, ?_, ?_, by omega⟩
      · rw [h2, Option.bind_some, if_pos rfl, impl_isBreak_is, hx, Option.bind_some, if_pos rfl, impl_treeDrops_is t 300 x (by omega) (by omega), Option.bind_some]
      · rw [h1, Option.bind_some, if_pos rfl, spec_l1In_is, hx, Option.bind_some, spec_TreeDrops.j0, if_neg (by simp)]
        exact spec_TreeDrops_l0 t 299 x 0 [] (by omega) (by omega) (by omega) (by simp; omega)
    · refine ⟨[], false, ?_, ?_, by simp⟩
      · rw [h2, Option.bind_some, if_pos rfl, impl_isBreak_is, Bool.eq_false_iff.mpr hx]; rfl
      · rw [h1, Option.bind_some, if_pos rfl, spec_l1In_is, Bool.eq_false_iff.mpr hx]; rfl
  · rw [Bool.eq_false_iff.mpr g] at h1 h2
    exact ⟨[], false, by rw [h2]; rfl, by rw [h1]; rfl, by simp⟩

/-! ### laws_FnTreesTest: function 3, a law -/
def laws_FnTreesTest.Pure : Prop := True
theorem wf_u8_ {x : Int} (h : (Lit.int .u8 x).wf = true) : 0 ≤ x ∧ x ≤ 255 := by
  simp only [Lit.wf, Bool.and_eq_true, decide_eq_true_eq] at h
  have h1 : IntKind.u8.min = 0 := by decide
  have h2 : IntKind.u8.max = 255 := by decide
  omega
theorem trees_all (code more : List Int) (hlc : ∀ x ∈ code, 0 ≤ x ∧ x ≤ 255) (hlm : ∀ x ∈ more, 0 ≤ x ∧ x ≤ 255) (hbig : code.length + more.length ≤ 1048576) (A0 A1 : Option Addr) (c0 c1 : Nat) (w : World) (K0e : code.length ≤ c0) (hK0 : Kd.C (Kd.int .u8) w A0 code.length code) (K1e : more.length ≤ c1) (hK1 : Kd.C (Kd.int .u8) w A1 more.length more) :
    Calls Try.prog 3 #[.slice A0 code.length c0, .slice A1 more.length c1] w fun e w' => e = .returned (.bool true) ∧ Below w.heap.size w w' := by
  obtain ⟨l, hl100, hdl⟩ := draw_l code hlc
  obtain ⟨x, y, hx, hy, hdj⟩ := draw_j more hlm
  obtain ⟨z, kk, hdd⟩ := draw_d more hlm
  obtain ⟨rows, fine, t1, t2, hrl⟩ := treeDrops_both z kk
  have hB := big_no code more hbig
  have hTS : (∃ j, j.length ≤ 1000 ∧ TS more more.length x x.length y y.length j j.length z z.length kk rows rows.length false fine) ∨ (∃ j, TS more more.length x x.length y y.length j j.length z z.length kk rows rows.length true fine ∧ OnIRR 12 j j.length x x.length y y.length true) := by
    by_cases h : isT x = true ∧ isT y = true ∧ x.length + y.length ≤ 29
    · obtain ⟨hx1, hy1, hs⟩ := h
      obtain ⟨b, rfl, hb⟩ := isTree_tr x hx1
      obtain ⟨a, rfl, ha⟩ := isTree_tr y hy1
      rw [Tr.toL_length, Tr.toL_length] at hs
      obtain ⟨j1, j2⟩ := tt_join b a hs
      obtain ⟨p1, _⟩ := tt_parts b a hs
      exact .inr ⟨_, ⟨hdj, on_join1 j1, on_join2 j2, hdd, on_drops1 t1, on_drops2 t2, on_same _ (by rw [Tr.toL_length]; simp only [Tr.size]; omega), on_sameD _ hrl⟩, on_parts1 p1⟩
    · obtain ⟨j1, j2⟩ := tt_join_no x y (by omega) (by omega) h
      exact .inl ⟨[], by simp, ⟨hdj, on_join1 j1, on_join2 j2, hdd, on_drops1 t1, on_drops2 t2, on_same _ (by simp), on_sameD _ hrl⟩⟩
  by_cases g : isT l = true
  · obtain ⟨t, rfl, ht⟩ := isTree_tr l g
    have hlt := Tr.toL_length t 1
    obtain ⟨e1, e2, e3, e4, e5, e6, e9, e10, e11, e12, _⟩ := tt_yes t ht
    have hml : (t.mirror.toL 1).length ≤ 1000 := by rw [Tr.toL_length, t.mirror_size]; omega
    have G := mk_TL t ht
    cases t with
    | nil =>
      obtain ⟨e7, e8⟩ := tt_parts_nil
      have T := mk_TF hdl (by simp) (by simp) hml e1 e2 e3 e4 e5 e6 e7 e8 e9 e10 e11 e12
      rcases hTS with ⟨j, _, U⟩ | ⟨j, U, hp⟩
      · exact trees_B0 code more code.length more.length _ _ _ _ _ _ _ _ _ _ _ T _ _ _ _ _ (by rw [hlt]; exact ht) G (by rw [hlt]; rfl) _ _ _ _ _ _ _ _ _ _ _ _ U hB A0 A1 c0 c1 w K0e hK0 K1e hK1
      · exact trees_B1 code more code.length more.length _ _ _ _ _ _ _ _ _ _ _ T _ _ _ _ _ (by rw [hlt]; exact ht) G (by rw [hlt]; rfl) _ _ _ _ _ _ _ _ _ _ _ _ U hp (on_same x (by omega)) (on_same y (by omega)) hB A0 A1 c0 c1 w K0e hK0 K1e hK1
    | node b a =>
      have hs : b.size + a.size ≤ 29 := by simp only [Tr.size] at ht; omega
      obtain ⟨e7, e8⟩ := tt_parts b a hs
      have hbl := Tr.toL_length b 1
      have hal := Tr.toL_length a 1
      have T := mk_TF hdl (by omega) (by omega) hml e1 e2 e3 e4 e5 e6 e7 e8 e9 e10 e11 e12
      have hj := on_join1 (tt_join b a hs).1
      have hroot : rd ((Tr.node b a).toL 1) 0 = ((b.toL 1).length : Int) + 1 := by simp only [Tr.toL, rd_cons0]; rw [hbl]; omega
      have hsz : (b.toL 1).length + (a.toL 1).length + 1 = ((Tr.node b a).toL 1).length := by rw [hbl, hal, hlt]; rfl
      rcases hTS with ⟨j, _, U⟩ | ⟨j, U, hp⟩
      · exact trees_C0 code more code.length more.length _ _ _ _ _ _ _ _ _ _ _ T _ _ _ _ _ (by rw [hlt]; exact ht) G (by omega) hj hroot hsz _ _ _ _ _ _ _ _ _ _ _ _ U hB A0 A1 c0 c1 w K0e hK0 K1e hK1
      · exact trees_C1 code more code.length more.length _ _ _ _ _ _ _ _ _ _ _ T _ _ _ _ _ (by rw [hlt]; exact ht) G (by omega) hj hroot hsz _ _ _ _ _ _ _ _ _ _ _ _ U hp (on_same x (by omega)) (on_same y (by omega)) hB A0 A1 c0 c1 w K0e hK0 K1e hK1
  · obtain ⟨e1, e2, e3, e4, e5, e6, e7, e8, e9, e10, e11, e12⟩ := tt_no l (Bool.eq_false_iff.mpr g)
    have T := mk_TF hdl (by simp) (by simp) (by simp) e1 e2 e3 e4 e5 e6 e7 e8 e9 e10 e11 e12
    rcases hTS with ⟨j, _, U⟩ | ⟨j, U, hp⟩
    · exact trees_A0 code more code.length more.length _ _ _ _ _ _ _ _ _ _ _ T _ _ _ _ _ _ _ _ _ _ _ _ U hB A0 A1 c0 c1 w K0e hK0 K1e hK1
    · exact trees_A1 code more code.length more.length _ _ _ _ _ _ _ _ _ _ _ T _ _ _ _ _ _ _ _ _ _ _ _ U hp (on_same x (by omega)) (on_same y (by omega)) hB A0 A1 c0 c1 w K0e hK0 K1e hK1
set_option maxHeartbeats 4000000 in
set_option maxRecDepth 100000 in
theorem laws_FnTreesTest.walk (P : laws_FnTreesTest.Pure) (a0 : Option Addr) (len0 cap0 : Nat) (z0 : List Int) (a1 : Option Addr) (len1 cap1 : Nat) (z1 : List Int) (w : World)
    (w0 : (a0 = none ∧ len0 = 0 ∧ cap0 = 0 ∧ z0 = []) ∨ ∃ x, a0 = some x ∧ len0 ≤ cap0 ∧ cap0 ≤ maxLen ∧ z0.length = cap0 ∧ (∀ i, i < z0.length → w.cell? (x.add i) = some (.int .u8 (z0.getD i 0))) ∧ ∀ n ∈ z0, (Lit.int .u8 n).wf = true) (y0 : len0 * 1 ≤ 140737488351232)
    (w1 : (a1 = none ∧ len1 = 0 ∧ cap1 = 0 ∧ z1 = []) ∨ ∃ x, a1 = some x ∧ len1 ≤ cap1 ∧ cap1 ≤ maxLen ∧ z1.length = cap1 ∧ (∀ i, i < z1.length → w.cell? (x.add i) = some (.int .u8 (z1.getD i 0))) ∧ ∀ n ∈ z1, (Lit.int .u8 n).wf = true) (y1 : len1 * 1 ≤ 140737488351232) :
    Calls Try.prog 3 #[.slice a0 len0 cap0, .slice a1 len1 cap1] w fun e w' => e = .returned (.bool true) ∧ Below w.heap.size w w' := by
  obtain ⟨l0, rfl, hr0, hm0, hw0, hc0⟩ := ReadsInt.ofRowC w0
  obtain ⟨l1, rfl, hr1, hm1, hw1, hc1⟩ := ReadsInt.ofRowC w1
  have hC0 := Kd.C_of_reads (d := (0 : Int)) (h1 := fun _ => rfl) hr0
  have hC1 := Kd.C_of_reads (d := (0 : Int)) (h1 := fun _ => rfl) hr1
  by_cases hbig : l0.length + l1.length ≤ 1048576
  · exact trees_all l0 l1 (fun x hx => wf_u8_ (hw0 x hx)) (fun x hx => wf_u8_ (hw1 x hx)) hbig a0 a1 cap0 cap1 w hc0 hC0 hc1 hC1
  · have HBIG := Aside0.mk (laws_big.calls a0 cap0 l0 a1 cap1 l1 true w hC0 hc0 hC1 hc1 (by
      unfold laws_big.f
      by_cases h : (l0.length : Int) > 1048576
      · rw [if_pos h]
      · have e_ : wrap64 (1048576 - (l0.length : Int)) = 1048576 - (l0.length : Int) := by unfold wrap64; omega
        rw [if_neg h, e_, decide_eq_true (by clear e_; omega)]))
    clear hr0 hr1 hC0 hC1 hw0 hw1 hm0 hm1 hbig
    go_enter Try.func3, Try.ntmps3
    go_wp2_with (go_at_call 4; refine (HBIG.out).mono ?_; rintro e w2_ ⟨rfl, hd⟩)
    go_ret
    exact ⟨rfl, hd.below⟩


end Go.Proofs.Ytmcjggjkfkkpbaa.PrintA
