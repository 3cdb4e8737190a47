-- written by this session's own driver (wip/gen.py) with the kit's print and contracts of our own
import Derived.Test.YtmcjggjkfkkpbaaPrintA0
import Derived.Test.YtmcjggjkfkkpbaaPrintA2
import Derived.Test.YtmcjggjkfkkpbaaPrintA4
import Derived.Test.YtmcjggjkfkkpbaaPrintA5
import Derived.Test.YtmcjggjkfkkpbaaPrintA7
import Derived.Test.YtmcjggjkfkkpbaaPrintA10
import Derived.Test.YtmcjggjkfkkpbaaPrintA11
import Derived.Test.YtmcjggjkfkkpbaaPrintA13
import Derived.Test.YtmcjggjkfkkpbaaPrintA15
import Derived.Test.YtmcjggjkfkkpbaaPrintA17
import Derived.Test.YtmcjggjkfkkpbaaPrintA18
import Derived.Test.YtmcjggjkfkkpbaaPrintA19
import Derived.Test.YtmcjggjkfkkpbaaPrintA20
import Derived.Test.YtmcjggjkfkkpbaaPrintA21
import Derived.Test.YtmcjggjkfkkpbaaPrintA22
namespace Go.Proofs.Ytmcjggjkfkkpbaa.PrintA
open Go.RowKit Go.Proofs.YtmcjggjkfkkpbaaLib Go.Proofs.YtmcjggjkfkkpbaaW.PrintWords Go.Proofs.YtmcjggjkfkkpbaaW.PrintLast Go.Proofs.YtmcjggjkfkkpbaaW.PrintMore
attribute [local go_sem] max2_int min2_int max_two min_two max_three min_three max_four min_four   -- for this text's walks alone
set_option linter.unusedVariables false
set_option linter.unusedSimpArgs false

/-! behind spec_MirrorTree -/
theorem on_same (x : List Int) (hx : x.length ≤ 1000) : OnSame x x.length := fun W A c A' c' h1 h2 h3 h4 => (laws_iSame.calls 2000 A c x A' c' x true W h2 h1 h4 h3 (iSame_is x (by omega) 2000 (by omega))).mono fun _ _ h => ⟨h.1, h.2.below⟩
theorem on_sameD (x : List S42) (hx : x.length ≤ 1000) : OnSameD x x.length := fun W A c A' c' h1 h2 h3 h4 => (laws_iDrops.calls 2000 A c x A' c' x true W h2 h1 h4 h3 (iDrops_is x (by omega) 2000 (by omega))).mono fun _ _ h => ⟨h.1, h.2.below⟩
theorem on_parts1 {l r s : List Int} {b : Bool} (e : impl_PartsOfTree.f 300 l = some (r, s, b)) : OnIRR 12 l l.length r r.length s s.length b := fun W A c h1 h2 => (impl_PartsOfTree.calls 300 A c l r s b W h2 h1 e).mono fun _ _ ⟨v0, v1, he, hr, hs, hb⟩ => by
  obtain ⟨A1, c1, rfl, q1, q2⟩ := Kd.R_reads hr
  obtain ⟨A2, c2, rfl, q3, q4⟩ := Kd.R_reads hs
  exact ⟨A1, c1, A2, c2, he, q1, q2, q3, q4, hb⟩
theorem on_parts2 {l r s : List Int} {b : Bool} (e : spec_PartsOfTree.f 300 l = some (r, s, b)) : OnIRR 13 l l.length r r.length s s.length b := fun W A c h1 h2 => (spec_PartsOfTree.calls 300 A c l r s b W h2 h1 e).mono fun _ _ ⟨v0, v1, he, hr, hs, hb⟩ => by
  obtain ⟨A1, c1, rfl, q1, q2⟩ := Kd.R_reads hr
  obtain ⟨A2, c2, rfl, q3, q4⟩ := Kd.R_reads hs
  exact ⟨A1, c1, A2, c2, he, q1, q2, q3, q4, hb⟩
theorem on_mir1 {l r : List Int} {b : Bool} (e : impl_MirrorTree.f 300 l = some (r, b)) : OnIR 14 l l.length r r.length b := fun W A c h1 h2 => (impl_MirrorTree.calls 300 A c l r b W h2 h1 e).mono fun _ _ ⟨v0, he, hr, hb⟩ => by
  obtain ⟨A1, c1, rfl, q1, q2⟩ := Kd.R_reads hr
  exact ⟨A1, c1, he, q1, q2, hb⟩
theorem on_mir2 {l r : List Int} {b : Bool} (e : spec_MirrorTree.f 300 l = some (r, b)) : OnIR 15 l l.length r r.length b := fun W A c h1 h2 => (spec_MirrorTree.calls 300 A c l r b W h2 h1 e).mono fun _ _ ⟨v0, he, hr, hb⟩ => by
  obtain ⟨A1, c1, rfl, q1, q2⟩ := Kd.R_reads hr
  exact ⟨A1, c1, he, q1, q2, hb⟩
theorem on_join1 {x y r : List Int} {b : Bool} (e : impl_JoinTrees.f 300 x y = some (r, b)) : OnIIR 22 x x.length y y.length r r.length b := fun W A c A' c' h1 h2 h3 h4 => (impl_JoinTrees.calls 300 A c x A' c' y r b W h2 h1 h4 h3 e).mono fun _ _ ⟨v0, he, hr, hb⟩ => by
  obtain ⟨A1, c1, rfl, q1, q2⟩ := Kd.R_reads hr
  exact ⟨A1, c1, he, q1, q2, hb⟩
theorem on_join2 {x y r : List Int} {b : Bool} (e : spec_JoinTrees.f 300 x y = some (r, b)) : OnIIR 24 x x.length y y.length r r.length b := fun W A c A' c' h1 h2 h3 h4 => (spec_JoinTrees.calls 300 A c x A' c' y r b W h2 h1 h4 h3 e).mono fun _ _ ⟨v0, he, hr, hb⟩ => by
  obtain ⟨A1, c1, rfl, q1, q2⟩ := Kd.R_reads hr
  exact ⟨A1, c1, he, q1, q2, hb⟩
theorem on_drops1 {l : List Int} {x : Int} {r : List S42} {b : Bool} (e : impl_TreeDrops.f 300 l x = some (r, b)) : OnID 19 l l.length x r r.length b := fun W A c h1 h2 => (impl_TreeDrops.calls 300 A c l x r b W h2 h1 e).mono fun _ _ ⟨v0, he, hr, hb⟩ => by
  obtain ⟨A1, c1, rfl, q1, q2⟩ := Kd.R_reads hr
  exact ⟨A1, c1, he, q1, q2, hb⟩
theorem on_drops2 {l : List Int} {x : Int} {r : List S42} {b : Bool} (e : spec_TreeDrops.f 300 l x = some (r, b)) : OnID 26 l l.length x r r.length b := fun W A c h1 h2 => (spec_TreeDrops.calls 300 (fun k_ => k_ < W.heap.size) A c l x r b W (Kd.V_mk h1 (Kd.C_F (Kd.heap_int .i64) h2)) e).mono fun _ _ ⟨v0, he, hr, hb⟩ => by
  obtain ⟨A1, c1, rfl, q1, q2⟩ := Kd.R_reads hr
  exact ⟨A1, c1, he, q1, q2, hb⟩
theorem on_set {n : Int} {r : List S42} {a b : Bool} (e : impl_IsSettled.f 300 n r = some (a, b)) : OnDr 20 n r r.length (.tuple #[.bool a, .bool b]) := fun W A c h1 h2 => impl_IsSettled.calls 300 n A c r a b W h2 h1 e
theorem on_opn {n p q : Int} {r : List S42} {b : Bool} (e : impl_LeftOpen.f 300 n r = some (p, q, b)) : OnDr 21 n r r.length (.tuple #[.int .i64 p, .int .i64 q, .bool b]) := fun W A c h1 h2 => impl_LeftOpen.calls 300 n A c r p q b W h2 h1 e
theorem draw_l (code : List Int) (hl : ∀ x ∈ code, 0 ≤ x ∧ x ≤ 255) : ∃ l : List Int, l.length ≤ 100 ∧ DrawL code code.length l l.length := by
  obtain ⟨q, i', s', e, h, _, _⟩ := tree_ok code hl 300 0 0 (by omega) (by omega) (by omega)
  refine ⟨q, h, fun W A c h1 h2 => (spec_DrawTestsOfTree.calls 300 A c code q W h2 h1 ?_).mono fun _ _ ⟨v0, he, hr, hb⟩ => ?_⟩
  · unfold spec_DrawTestsOfTree.f spec_DrawIsTree.f
    rw [e]; rfl
  · obtain ⟨A1, c1, rfl, q1, q2⟩ := Kd.R_reads hr
    exact ⟨A1, c1, he, q1, q2, hb⟩
theorem draw_j (code : List Int) (hl : ∀ x ∈ code, 0 ≤ x ∧ x ≤ 255) : ∃ x y : List Int, x.length ≤ 100 ∧ y.length ≤ 100 ∧ DrawJ code code.length x x.length y y.length := by
  obtain ⟨q, i', s', e, h, a, b⟩ := tree_ok code hl 300 0 0 (by omega) (by omega) (by omega)
  obtain ⟨p, i2, s2, e2, h2_, _, _⟩ := tree_ok code hl 300 i' s' (by omega) (by omega) (by omega)
  refine ⟨q, p, h, h2_, fun W A c h1 h2 => (spec_DrawJoinTrees.calls 300 A c code q p W h2 h1 ?_).mono fun _ _ ⟨v0, v1, he, hr, hs, hb⟩ => ?_⟩
  · unfold spec_DrawJoinTrees.f
    rw [e, Option.bind_some, e2]; rfl
  · obtain ⟨A1, c1, rfl, q1, q2⟩ := Kd.R_reads hr
    obtain ⟨A2, c2, rfl, q3, q4⟩ := Kd.R_reads hs
    exact ⟨A1, c1, A2, c2, he, q1, q2, q3, q4, hb⟩
theorem draw_d (code : List Int) (hl : ∀ x ∈ code, 0 ≤ x ∧ x ≤ 255) : ∃ (z : List Int) (k : Int), DrawD code code.length z z.length k := by
  obtain ⟨q, i', s', e, h, a, b⟩ := tree_ok code hl 300 0 0 (by omega) (by omega) (by omega)
  obtain ⟨p, i2, s2, e2, _, _, _, h3, h4⟩ := pick_ok code hl i' s' (wrap64 ((q.length : Int) + 2)) (by omega) (by omega)
  obtain ⟨p3, i3, s3, e3, _, _, _, h5, h6⟩ := pick_ok code hl i2 s2 9 (by omega) (by omega)
  refine ⟨q, wrap64 (p - wrap64 (Int.tdiv p3 8)), fun W A c h1 h2 => (spec_DrawTreeDrops.calls 300 A c code q (wrap64 (p - wrap64 (Int.tdiv p3 8))) W h2 h1 ?_).mono fun _ _ ⟨v0, he, hr, hb⟩ => ?_⟩
  · unfold spec_DrawTreeDrops.f
    rw [e, Option.bind_some, e2, Option.bind_some, e3]; rfl
  · obtain ⟨A1, c1, rfl, q1, q2⟩ := Kd.R_reads hr
    exact ⟨A1, c1, he, q1, q2, hb⟩
theorem mk_TF {code l below above mir : List Int} {tests eggs sum : Int} {ok five : Bool} (hd : DrawL code code.length l l.length) (hb : below.length ≤ 1000) (ha : above.length ≤ 1000) (hm : mir.length ≤ 1000)
    (e1 : impl_TestsOfTree.f 300 l = some (tests, ok)) (e2 : spec_TestsOfTree.f 300 l = some (tests, ok)) (e3 : impl_EggsOfTree.f 300 l = some (eggs, ok)) (e4 : spec_EggsOfTree.f 300 l = some (eggs, ok)) (e5 : impl_SumOfTree.f 300 l = some (sum, ok)) (e6 : spec_SumOfTree.f 300 l = some (sum, ok))
    (e7 : impl_PartsOfTree.f 300 l = some (below, above, five)) (e8 : spec_PartsOfTree.f 300 l = some (below, above, five)) (e9 : impl_MirrorTree.f 300 l = some (mir, ok)) (e10 : spec_MirrorTree.f 300 l = some (mir, ok)) (e11 : impl_IsTree.f 300 l = some ok) (e12 : spec_IsTree.f 300 l = some ok) :
    TF code code.length l l.length below below.length above above.length mir mir.length tests eggs sum ok five where
  draw := hd
  t1 := fun W A c h1 h2 => impl_TestsOfTree.calls 300 A c l _ _ W h2 h1 e1
  t2 := fun W A c h1 h2 => spec_TestsOfTree.calls 300 A c l _ _ W h2 h1 e2
  e1 := fun W A c h1 h2 => impl_EggsOfTree.calls 300 A c l _ _ W h2 h1 e3
  e2 := fun W A c h1 h2 => spec_EggsOfTree.calls 300 A c l _ _ W h2 h1 e4
  s1 := fun W A c h1 h2 => impl_SumOfTree.calls 300 A c l _ _ W h2 h1 e5
  s2 := fun W A c h1 h2 => spec_SumOfTree.calls 300 A c l _ _ W h2 h1 e6
  p1 := on_parts1 e7
  p2 := on_parts2 e8
  m1 := on_mir1 e9
  m2 := on_mir2 e10
  i1 := fun W A c h1 h2 => (impl_IsTree.calls 300 A c l _ W h2 h1 e11).mono fun _ _ h => ⟨h.1, h.2.below⟩
  i2 := fun W A c h1 h2 => spec_IsTree.calls 300 A c l _ W h2 h1 e12
  b := on_same below hb
  a := on_same above ha
  m := on_same mir hm
theorem mk_TL (t : Tr) (ht : t.size ≤ 30) : TL (t.toL 1) (t.toL 1).length (t.mirror.toL 1) (t.mirror.toL 1).length t.tests t.eggs t.sum (fun k => dropsT t 0 k []) (fun k => (dropsT t 0 k []).length) (maxTo (fun x => (t.lenT x : Int))) (maxTo (fun x => (brkT t x : Int))) (sumTo (fun x => (t.lenT x : Int))) := by
  have hl := Tr.toL_length t 1
  have hm2 : t.mirror.size ≤ 30 := by rw [t.mirror_size]; exact ht
  have y := tt_yes t ht
  have ym := tt_yes t.mirror hm2
  have hlen : ∀ k : Nat, (dropsT t 0 (k : Int) []).length = t.lenT k := fun k => by have := dropsT_len t 0 k []; simpa using this
  refine { drops := ?_, set := ?_, opn := ?_, dlen := fun _ _ => rfl, len := ?_, mx0 := rfl, bx0 := rfl, sm0 := rfl, mxs := ?_, bxs := ?_, sms := ?_, smb := ?_, mxe := ?_, bxe := ?_, sme := ?_, mm := ?_, mt := ?_, ms := ?_, same := ?_ }
  · intro k hk
    exact on_drops1 (y.2.2.2.2.2.2.2.2.2.2 k (by omega))
  · intro k hk
    obtain ⟨h1, h2⟩ := settled_at t ht k (by omega)
    refine on_set ?_
    unfold impl_IsSettled.f
    rw [hl, h1, Option.bind_some, if_pos rfl, at_rounds (impl_open.mono _ _) (by decide : 200 ≤ 300) h2]
    simp
  · intro k hk
    obtain ⟨h1, h2⟩ := settled_at t ht k (by omega)
    refine on_opn ?_
    unfold impl_LeftOpen.f
    rw [hl, h1, Option.bind_some, if_pos rfl, at_rounds (impl_open.mono _ _) (by decide : 200 ≤ 300) h2, Option.bind_some, if_neg (by simp)]
  · intro k hk
    have := t.lenT_le k
    show (dropsT t 0 (k : Int) []).length ≤ 30
    rw [hlen k]; omega
  · intro k hk
    show maxTo _ (k + 1) = max (maxTo _ k) ((dropsT t 0 (k : Int) []).length : Int)
    rw [hlen k]; rfl
  · intro k hk
    show maxTo _ (k + 1) = max (maxTo _ k) (cntB (dropsT t 0 (k : Int) []) : Int)
    have := dropsT_brk t 0 (k : Int)
    rw [this, Int.sub_zero]; rfl
  · intro k hk
    show sumTo _ (k + 1) = sumTo _ k + ((dropsT t 0 (k : Int) []).length : Int)
    rw [hlen k]; rfl
  · intro k hk
    have := sumTo_range t k (by omega) ht
    omega
  · rw [hl]; exact tests_is t
  · rw [hl]; exact eggs_is t
  · rw [hl]; exact t.sum_is
  · have h := ym.2.2.2.2.2.2.1
    rw [mirror_twice] at h
    exact on_mir1 h
  · have h := ym.1
    rw [mirror_tests] at h
    exact fun W A c h1 h2 => impl_TestsOfTree.calls 300 A c _ _ _ W h2 h1 h
  · have h := ym.2.2.2.2.1
    rw [mirror_sum] at h
    exact fun W A c h1 h2 => impl_SumOfTree.calls 300 A c _ _ _ W h2 h1 h
  · exact on_same _ (by omega)

end Go.Proofs.Ytmcjggjkfkkpbaa.PrintA
