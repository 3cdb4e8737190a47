-- written by this session's own driver (wip/gen.py) with the kit's print and contracts of our own
import Derived.Test.YtoldjcmokcgaiaaPrintA0
import Derived.Test.YtoldjcmokcgaiaaPrintA6
import Derived.Test.YtoldjcmokcgaiaaPrintA9
import Derived.Test.YtoldjcmokcgaiaaPrintA11
import Derived.DeepKeys5
import Derived.Maps.OwnSet
namespace Go.Proofs.Ytoldjcmokcgaiaa.PrintA
open Go.RowKit Go.Proofs.YtoldjcmokcgaiaaLib Go.Proofs.YtoldjcmokcgaiaaW.PrintWords Go.Proofs.YtoldjcmokcgaiaaW.PrintLast Go.Proofs.YtoldjcmokcgaiaaW.PrintMore
attribute [local go_sem] max2_int min2_int max_two min_two max_three min_three max_four min_four   -- for this text's walks alone
set_option linter.unusedVariables false
set_option linter.unusedSimpArgs false

/-! ### impl_houser_least: function 22, a contract of our own -/
-- IMPORT Derived.Maps.OwnSet
-- IMPORT Derived.DeepKeys5
-- LIB Houses
/-- Nothing old is written but one map; the streams are as they were. -/
structure KeptM (w W : World) (mb : Nat) : Prop where
  one : Kept w W (fun k_ => k_ = mb)
  all : Below 0 w W
theorem KeptM.size {w W : World} {mb : Nat} (h : KeptM w W mb) : w.heap.size ≤ W.heap.size := h.1.1
theorem KeptM.refl (w : World) (mb : Nat) : KeptM w w mb := ⟨Kept.refl _ _, Below.refl _ _⟩
theorem KeptM.of_below {w W : World} (h : Below w.heap.size w W) (mb : Nat) : KeptM w W mb := ⟨Kept.of_below h _, h.mono (Nat.zero_le _)⟩
theorem KeptM.then_ {w W W2 : World} {mb : Nat} (h : KeptM w W mb) (k : KeptM W W2 mb) : KeptM w W2 mb := ⟨h.1.then_ k.1 (fun _ h_ => Or.inl h_), h.2.trans k.2⟩
theorem KeptM.below {w W W2 : World} {mb : Nat} (h : KeptM w W mb) (hb : Below W.heap.size W W2) : KeptM w W2 mb := ⟨h.1.below hb, h.2.trans (hb.mono (Nat.zero_le _))⟩
theorem KeptM.drew {w W : World} {mb : Nat} (h : KeptM w W mb) : KeptM w W.drew mb := ⟨h.1.drew, h.2.drew⟩
theorem KeptM.setCell {w W : World} {mb : Nat} (h : KeptM w W mb) {p : Addr} (hp : p.block = mb ∨ w.heap.size ≤ p.block) (u : Value) : KeptM w (W.setCell p u) mb := ⟨h.1.setCell hp u, h.2.setCell (Nat.zero_le _) u⟩
theorem KeptM.of_grown {w W W2 : World} {mb : Nat} (hg : W.grownBy W2 (some mb)) (h : KeptM w W mb) : KeptM w W2 mb := ⟨Kept.of_grown hg h.1 (fun _ hk => Or.inl (Option.some.inj hk).symm), h.2.grown hg (Nat.zero_le _) (fun _ _ => Nat.zero_le _)⟩
theorem KeptM.new {w W : World} {mb : Nat} (h : KeptM w W mb) (hm : w.heap.size ≤ mb) : Below w.heap.size w W := ⟨h.2.os, h.2.tape, h.2.output, h.1.1, fun k hk => h.1.2 k hk (by intro he; omega)⟩
theorem hKeyed : Go.Maps.Keyed Try.prog 40 := Go.Maps.Keyed.of_law (Go.deep_law_laid (by kernel_rfl) (m := 20) (by decide) (of_decide_eq_true (by kernel_rfl)) (by kernel_rfl) (by kernel_rfl))
theorem hKey_some (e : Int) (l : List Int) (hk : hOk l) (h0 : 0 ≤ e) (h6 : e ≤ 6) : ∃ q, Go.keyOf Try.prog 40 (hVA e l) = some q := by
  have g0 := hOk_get hk 0
  have g1 := hOk_get hk 1
  have g2 := hOk_get hk 2
  have hu := Try.underlying40
  have ha := Try.underlying38
  have hi := Try.underlying3
  have hkt : (Try.prog).keyType 40 = true := by kernel_rfl
  have hsz : ∃ n, (Try.prog).types.size + 1 = n + 3 := ⟨(Try.prog).types.size - 2, by have : (Try.prog).types.size = (Try.prog).types.size - 2 + 2 := (by kernel_rfl); omega⟩
  have hco : (Try.prog).cellsOf 40 = 4 := by kernel_rfl
  have hca : (Try.prog).cellsOf 38 = 3 := by kernel_rfl
  have hci : (Try.prog).cellsOf 3 = 1 := by kernel_rfl
  have hf : (hVA e l).formed Try.prog 40 = true := by
    simp [Value.formed, hVA, hu, hco]
  obtain ⟨n, hn⟩ := hsz
  unfold Go.keyOf
  rw [hu]
  simp only [hkt, hf, Bool.and_self, if_true, hn]
  have hL : ∀ (m : Nat) (x : Int), 0 ≤ x → x ≤ 8 → (Try.prog).keyLits (m + 1) 3 [.int .i64 x] = some [.int .i64 x] := fun m x g1 g2 => by
    have hw : (Lit.int .i64 x).wf = true := WalkArith.wf_i64 (by omega)
    simp [Program.keyLits, hi, hw]
  have hA : (Try.prog).keyLits (n + 2) 38 [.int .i64 (l.getD 0 0), .int .i64 (l.getD 1 0), .int .i64 (l.getD 2 0)] = some [.int .i64 (l.getD 0 0), .int .i64 (l.getD 1 0), .int .i64 (l.getD 2 0)] := by
    generalize l.getD 0 0 = x at g0 ⊢
    generalize l.getD 1 0 = y at g1 ⊢
    generalize l.getD 2 0 = z at g2 ⊢
    unfold Program.keyLits
    rw [ha]
    simp [hca, hci, List.range_succ, hL n x g0.1 g0.2, hL n y g1.1 g1.2, hL n z g2.1 g2.2]
  have e_ : (hVA e l).cells.toList = [.int .i64 (l.getD 0 0), .int .i64 (l.getD 1 0), .int .i64 (l.getD 2 0), .int .i64 e] := rfl
  have hall : (Try.prog).keyLits (n + 3) 40 (hVA e l).cells.toList = some [.int .i64 (l.getD 0 0), .int .i64 (l.getD 1 0), .int .i64 (l.getD 2 0), .int .i64 e] := by
    rw [e_]
    generalize l.getD 0 0 = x at hA ⊢
    generalize l.getD 1 0 = y at hA ⊢
    generalize l.getD 2 0 = z at hA ⊢
    unfold Program.keyLits
    rw [hu]
    simp [hco, hca, hci, hA, hL (n + 1) e h0 (by omega)]
  rw [hall]
  exact ⟨_, rfl⟩
noncomputable def hLit (e : Int) (l : List Int) : Lit := (Go.keyOf Try.prog 40 (hVA e l)).getD (.int .i64 0)
theorem hLit_is (e : Int) (l : List Int) (hk : hOk l) (h0 : 0 ≤ e) (h6 : e ≤ 6) : Go.keyOf Try.prog 40 (hVA e l) = some (hLit e l) := by
  obtain ⟨q, hq⟩ := hKey_some e l hk h0 h6
  unfold hLit
  rw [hq]; rfl
theorem hVA_inj (e e' : Int) (l l' : List Int) (h : hVA e l = hVA e' l') : e = e' ∧ hPad l = hPad l' := by
  simp only [hVA, Value.agg.injEq, Array.mk.injEq, List.cons.injEq, Value.int.injEq, true_and, and_true] at h
  obtain ⟨h1, h2, h3, h4⟩ := h
  exact ⟨h4, by unfold hPad; rw [h1, h2, h3]⟩
theorem hLit_ne (e e' : Int) (l l' : List Int) (hk : hOk l) (hk' : hOk l') (h0 : 0 ≤ e) (h6 : e ≤ 6) (h0' : 0 ≤ e') (h6' : e' ≤ 6) (h : ¬ (e = e' ∧ hPad l = hPad l')) : hLit e l ≠ hLit e' l' := fun q => by
  have h1 := hLit_is e l hk h0 h6
  have h2 := hLit_is e' l' hk' h0' h6'
  rw [q] at h1
  exact h (hVA_inj _ _ _ _ (hKeyed.inj h1 h2))
noncomputable def hKeys : List Lit := (List.range 5103).map (fun p => hLit ((p / 729 : Nat) : Int) [((p / 81 % 9 : Nat) : Int), ((p / 9 % 9 : Nat) : Int), ((p % 9 : Nat) : Int)])
theorem hKeys_len : hKeys.length = 5103 := by unfold hKeys; rw [List.length_map, List.length_range]
theorem hLit_mem (e : Int) (l : List Int) (hk : hOk l) (h0 : 0 ≤ e) (h6 : e ≤ 6) : hLit e l ∈ hKeys := by
  have g0 := hOk_get hk 0
  have g1 := hOk_get hk 1
  have g2 := hOk_get hk 2
  have hc := hPl_cast hk h0 h6
  have hlt := hPl_lt hk h0 h6
  generalize hPl e l = p at hc hlt
  unfold hKeys
  rw [List.mem_map]
  refine ⟨p, List.mem_range.2 hlt, ?_⟩
  have a0 : ((p / 729 : Nat) : Int) = e := by omega
  have a1 : ((p / 81 % 9 : Nat) : Int) = l.getD 0 0 := by omega
  have a2 : ((p / 9 % 9 : Nat) : Int) = l.getD 1 0 := by omega
  have a3 : ((p % 9 : Nat) : Int) = l.getD 2 0 := by omega
  rw [a0, a1, a2, a3]
  rfl
theorem ownsMap_size {w : World} {mb n : Nat} {D : DataW Nat} (h : w.ownsMap Try.prog 40 (Go.plainElem Try.prog 3) mb n D) : w.ownsMap Try.prog 40 (Go.plainElem Try.prog 3) mb (Go.Maps.size D) D := by
  obtain ⟨es, clock, hb, F, hs, rfl⟩ := h
  exact ⟨es, clock, hb, F, by simp [Go.Maps.size, Go.length_sorted], rfl⟩
/-- What is known of villages is right, and no more is known than there are villages. -/
def HMemo (w : World) (mb : Nat) : Prop := ∃ D : DataW Nat, w.ownsMap Try.prog 40 (Go.plainElem Try.prog 3) mb (Go.Maps.size D) D ∧ Go.Maps.size D ≤ hKeys.countP (fun q => Go.Maps.has D q) ∧ ∀ e l, hOk l → 0 ≤ e → e ≤ 6 → Go.Maps.has D (hLit e l) = true → ∀ z, D.atKey (hLit e l) z = .lit (.int .i64 (hVal e (hPad l)))
theorem HMemo.look {w : World} {mb : Nat} (h : HMemo w mb) (e : Int) (l : List Int) (hk : hOk l) (h0 : 0 ≤ e) (h6 : e ≤ 6) :
    ∃ v b, (∀ w' : World, w'.heap[mb]? = w.heap[mb]? → (Instr.lookup 36 (.map (some mb)) (hVA e l) true).run Try.prog w' = .ok (.tuple #[.int .i64 v, .bool b]) w') ∧ (b = true → v = hVal e (hPad l)) := by
  obtain ⟨D, ho, hs, hD⟩ := h
  have hz : ∀ w', (zeroValue 3).run Try.prog w' = .ok (.int .i64 0) w' := fun w' => by kernel_rfl
  have hw0 : (Lit.int .i64 0).wf = true := by decide
  have key : ∀ w' : World, w'.heap[mb]? = w.heap[mb]? → ∃ v, (Instr.lookup 36 (.map (some mb)) (hVA e l) true).run Try.prog w' = .ok (.tuple #[.int .i64 v, .bool (Go.Maps.has D (hLit e l))]) w' ∧ D.atKey (hLit e l) (.lit (.int .i64 0)) = .lit (.int .i64 v) := fun w' hw => by
    have ho' : w'.ownsMap Try.prog 40 (Go.plainElem Try.prog 3) mb (Go.Maps.size D) D := by
      obtain ⟨es, clock, h1, h2⟩ := ho
      exact ⟨es, clock, hw.trans h1, h2⟩
    obtain ⟨v, ps, hrun, hv⟩ := ho'.look_ok hKeyed Try.underlying36 (hz w') (Go.plainElem_int Try.underlying3 hw0) (hLit_is e l hk h0 h6)
    obtain ⟨a, rfl, ha, _⟩ := Go.plainElem_int_inv Try.underlying3 hv
    exact ⟨a, hrun, (Prod.mk.inj ha).1⟩
  obtain ⟨v, _, hv⟩ := key w rfl
  refine ⟨v, Go.Maps.has D (hLit e l), fun w' hw => ?_, fun hb => ?_⟩
  · obtain ⟨v', hrun, hv'⟩ := key w' hw
    rw [hv] at hv'
    injection hv' with q1
    injection q1 with _ q2
    rw [q2]
    exact hrun
  · have h1 := hD e l hk h0 h6 hb (.lit (.int .i64 0))
    rw [h1] at hv
    injection hv with h2
    injection h2 with _ h2
    exact h2.symm
theorem HMemo.update {w : World} {mb : Nat} (h : HMemo w mb) (e : Int) (l : List Int) (hk : hOk l) (h0 : 0 ≤ e) (h6 : e ≤ 6) :
    ∃ w', (Instr.mapUpdate 36 (.map (some mb)) (hVA e l) (.int .i64 (hVal e (hPad l)))).run Try.prog w = .ok () w' ∧ HMemo w' mb ∧ w.grownBy w' (some mb) := by
  obtain ⟨D, ho, hs, hD⟩ := h
  have hr := hVal_range e (hPad l)
  have hw : (Lit.int .i64 (hVal e (hPad l))).wf = true := WalkArith.wf_i64 (by unfold hNever at hr; omega)
  have hn : Go.Maps.size D < maxLen := by
    have h1 : hKeys.countP (fun q => Go.Maps.has D q) ≤ hKeys.length := List.countP_le_length
    rw [hKeys_len] at h1
    have h2 : (5103 : Nat) < maxLen := by decide
    omega
  have hkl := hLit_is e l hk h0 h6
  obtain ⟨w', hrun, ho', hg⟩ := ho.update hKeyed Try.underlying36 hn hkl (Go.plainElem_int Try.underlying3 hw)
  refine ⟨w', hrun, ⟨_, ownsMap_size ho', ?_, fun e' l' hk' h0' h6' hh z => ?_⟩, hg⟩
  · rw [Go.Maps.size_put (ho.tidy hKeyed)]
    have hmono : ∀ y ∈ hKeys, Go.Maps.has D y = true → Go.Maps.has (D.put (hLit e l) (.lit (.int .i64 (hVal e (hPad l))))) y = true := fun y _ hy => by
      by_cases he : y = hLit e l
      · rw [he]; exact Go.Maps.has_put_same ho.isMap (hKeyed.key hkl) _
      · rw [Go.Maps.has_put_other he]; exact hy
    split
    · exact Nat.le_trans hs (List.countP_mono_left hmono)
    · rename_i hno
      exact Nat.le_trans (Nat.succ_le_succ hs) (countP_step _ _ hKeys (hLit e l) (hLit_mem e l hk h0 h6) hmono (by simpa using hno) (Go.Maps.has_put_same ho.isMap (hKeyed.key hkl) _))
  · by_cases he : e' = e ∧ hPad l' = hPad l
    · have hq : hLit e' l' = hLit e l := by
        unfold hLit
        have : hVA e' l' = hVA e l := by
          obtain ⟨r1, r2⟩ := he
          unfold hPad at r2
          simp only [List.cons.injEq, and_true] at r2
          unfold hVA
          rw [r1, r2.1, r2.2.1, r2.2.2]
        rw [this]
      rw [hq, he.1, he.2]
      exact Go.Maps.atKey_put_same ho.isMap (hKeyed.key hkl) _ _
    · have hne := hLit_ne e' e l' l hk' hk h0' h6' h0 h6 he
      rw [Go.Maps.has_put_other hne] at hh
      rw [Go.Maps.atKey_put_other hne]
      exact hD e' l' hk' h0' h6' hh z
theorem HMemo.start (w : World) : HMemo (w.alloc (.map #[] 0)) w.heap.size :=
  ⟨.map [], World.ownsMap_made w _ _ _, Nat.zero_le _, fun _ _ _ _ _ h => by cases h⟩
theorem HMemo.lt {w : World} {mb : Nat} (h : HMemo w mb) : mb < w.heap.size := by
  obtain ⟨D, ho, _⟩ := h
  exact ho.lt
theorem HMemo.step {w w' : World} {mb : Nat} (h : HMemo w mb) (hb : w'.heap[mb]? = w.heap[mb]?) : HMemo w' mb := by
  obtain ⟨D, ⟨es, clock, h1, h2⟩, hD⟩ := h
  exact ⟨D, ⟨es, clock, hb.trans h1, h2⟩, hD⟩
theorem HMemo.below {w w' : World} {mb : Nat} (h : HMemo w mb) (hb : Below w.heap.size w w') : HMemo w' mb := h.step (hb.block mb h.lt)
theorem heap_set4 (w : World) {b g : Nat} (hne : b ≠ g) (a0 a1 a2 a3 : Value) : ((((w.setCell ⟨g, 0, none⟩ a0).setCell ⟨g, 1, none⟩ a1).setCell ⟨g, 2, none⟩ a2).setCell ⟨g, 3, none⟩ a3).heap[b]? = w.heap[b]? :=
  (Below.heap_setCell _ _ _ b hne).trans ((Below.heap_setCell _ _ _ b hne).trans ((Below.heap_setCell _ _ _ b hne).trans (Below.heap_setCell _ _ _ b hne)))
theorem KeptM.set4 {w W : World} {mb g : Nat} (h : KeptM w W mb) (hg : w.heap.size ≤ g) (a0 a1 a2 a3 : Value) : KeptM w ((((W.setCell ⟨g, 0, none⟩ a0).setCell ⟨g, 1, none⟩ a1).setCell ⟨g, 2, none⟩ a2).setCell ⟨g, 3, none⟩ a3) mb :=
  (((h.setCell (Or.inr hg) _).setCell (Or.inr hg) _).setCell (Or.inr hg) _).setCell (Or.inr hg) _
theorem eggs_is (l : List Int) (h3 : l.length ≤ 3) : impl_eggsNeeded.f 10 l = some (hNeed l) := by
  rw [impl_needed_is]
  exact hoNeeded_is l h3
/-- The cells of a box with three numbers and one more, as a row of three. -/
theorem blk_row3 {W : World} {g : Nat} {x y z e : Int} {t : TypeId} (h : W.heap[g]? = some (.cells #[.int .i64 x, .int .i64 y, .int .i64 z, .int .i64 e] t (0, 0))) : Kd.C (Kd.int .i64) W (some ⟨g, 0, none⟩) 3 [x, y, z] := by
  refine Kd.C_of_reads (enc := Value.int .i64) (d := (0 : Int)) (h1 := fun _ => rfl) ⟨rfl, by decide, fun _ => ⟨_, rfl, fun j hj => ?_⟩⟩
  rcases (by omega : j = 0 ∨ j = 1 ∨ j = 2) with rfl | rfl | rfl
  · exact (blk_cell h 0).trans rfl
  · exact (blk_cell h 1).trans rfl
  · exact (blk_cell h 2).trans rfl
def HLeastC (m : Nat) : Prop := ∀ (e x y z : Int) (mb : Nat) (W : World), hOk [x, y, z] → 0 ≤ e → e ≤ 6 → hSum [x, y, z] < m → HMemo W mb →
    Calls Try.prog 22 #[.map (some mb), .agg #[.int .i64 x, .int .i64 y, .int .i64 z, .int .i64 e]] W fun e' w' => e' = .returned (.int .i64 (hVal e [x, y, z])) ∧ HMemo w' mb ∧ KeptM W w' mb
set_option maxHeartbeats 8000000 in
set_option maxRecDepth 100000 in
theorem hwith_of (m : Nat) (hP : HLeastC m) (e x y z : Int) (hk : hOk [x, y, z]) (h1 : 1 ≤ e) (h6 : e ≤ 6) (hm : hSum [x, y, z] ≤ m) (i : Nat) (f : Int) (ht : (i, f) ∈ hTests [x, y, z]) (mb : Nat) (W : World) (hM : HMemo W mb) :
    Calls Try.prog 35 #[.map (some mb), .agg #[.int .i64 x, .int .i64 y, .int .i64 z, .int .i64 e], .int .i64 i, .int .i64 f] W fun e' w' => e' = .returned (.int .i64 (hW e [x, y, z] (i, f))) ∧ HMemo w' mb ∧ KeptM W w' mb := by
  obtain ⟨ti, tf1, tf2⟩ := (hTests_mem _ _).1 ht
  have g0 := hOk_get hk 0
  have g1 := hOk_get hk 1
  have g2 := hOk_get hk 2
  have gi := hOk_get hk i
  have ti3 : i < 3 := ti
  simp only at tf1 tf2
  have o1 := hBr_ok hk _ ht
  have o2 := hWh_ok hk _ ht
  have r1 := hVal_range (e - 1) (hBr [x, y, z] (i, f))
  have r2 := hVal_range e (hWh [x, y, z] (i, f))
  have HPA := Aside0.mk (fun (W : World) => parts_is e x y z f g0 g1 g2 (by omega) (by omega) i ti3 W)
  have hv : hW e [x, y, z] (i, f) = 1 + max (hVal (e - 1) (hBr [x, y, z] (i, f))) (hVal e (hWh [x, y, z] (i, f))) := rfl
  rw [hv]
  have l1 : (hBr [x, y, z] (i, f)).length = 3 := by unfold hBr; rw [List.length_set]; rfl
  have l2 : (hWh [x, y, z] (i, f)).length = 3 := by unfold hWh; rw [List.length_set]; rfl
  generalize hBr [x, y, z] (i, f) = b1 at o1 r1 HPA l1 ⊢
  generalize hWh [x, y, z] (i, f) = b2 at o2 r2 HPA l2 ⊢
  obtain ⟨x1, y1, z1, rfl⟩ : ∃ x1 y1 z1, b1 = [x1, y1, z1] := by
    match b1, l1 with
    | [a, b, c], _ => exact ⟨a, b, c, rfl⟩
  obtain ⟨x2, y2, z2, rfl⟩ : ∃ x2 y2 z2, b2 = [x2, y2, z2] := by
    match b2, l2 with
    | [a, b, c], _ => exact ⟨a, b, c, rfl⟩
  obtain ⟨e1, he1⟩ : ∃ e1, e1 = e - 1 := ⟨_, rfl⟩
  obtain ⟨e2, he2⟩ : ∃ e2, e2 = e := ⟨_, rfl⟩
  have HF1 : Aside0 (∀ W, HMemo W mb → Calls Try.prog 22 #[.map (some mb), .agg #[.int .i64 x1, .int .i64 y1, .int .i64 z1, .int .i64 e1]] W fun e' w' => e' = .returned (.int .i64 (hVal e1 [x1, y1, z1])) ∧ HMemo w' mb ∧ KeptM W w' mb) := ⟨fun W h => hP e1 x1 y1 z1 mb W o1.1 (by omega) (by omega) (by omega) h⟩
  have HF2 : Aside0 (∀ W, HMemo W mb → Calls Try.prog 22 #[.map (some mb), .agg #[.int .i64 x2, .int .i64 y2, .int .i64 z2, .int .i64 e2]] W fun e' w' => e' = .returned (.int .i64 (hVal e2 [x2, y2, z2])) ∧ HMemo w' mb ∧ KeptM W w' mb) := ⟨fun W h => hP e2 x2 y2 z2 mb W o2.1 (by omega) (by omega) (by omega) h⟩
  have HPB : Aside0 (∀ W : World, Calls Try.prog 44 #[.agg #[.int .i64 x, .int .i64 y, .int .i64 z, .int .i64 e], .int .i64 i, .int .i64 f] W fun e_ w' => e_ = .returned (.tuple #[.agg #[.int .i64 x1, .int .i64 y1, .int .i64 z1, .int .i64 e1], .agg #[.int .i64 x2, .int .i64 y2, .int .i64 z2, .int .i64 e2]]) ∧ Below W.heap.size W w') := ⟨fun W => by rw [he1, he2]; exact HPA.out W⟩
  rw [← he1, show hVal e [x2, y2, z2] = hVal e2 [x2, y2, z2] by rw [he2]]
  rw [← he1] at r1
  rw [show hVal e [x2, y2, z2] = hVal e2 [x2, y2, z2] by rw [he2]] at r2
  clear hv hP hm ht hk o1 o2 l1 l2 HPA he1 he2 gi g0 g1 g2
  generalize hVal e1 [x1, y1, z1] = v1 at HF1 r1 ⊢
  generalize hVal e2 [x2, y2, z2] = v2 at HF2 r2 ⊢
  have hmx : (if v1 < v2 then v2 else v1) = max v1 v2 := by split <;> omega
  have hmr : 0 ≤ max v1 v2 ∧ max v1 v2 ≤ 1125899906842624 := by unfold hNever at r1 r2; omega
  have hw1 : IntKind.i64.wrap (1 + max v1 v2) = 1 + max v1 v2 := by rw [i64_w]; unfold wrap64; omega
  have HM := Aside0.mk hM
  have HKp := Aside0.mk (KeptM.refl W mb)
  clear hM r1 r2 ti
  go_enter Try.func35, Try.ntmps35
  go_wp2_with (first
    | ((with_reducible refine gate_dst (N := 5) rfl ?_); refine box_event ?hg (N := 5) ?hd (cs := #[.int .i64 x, .int .i64 y, .int .i64 z, .int .i64 e]) (t := 40) ?hr ?_; (case hd => rfl); (case hg => rfl); (case hr => first | (go_simp; done) | (go_simp; rfl)); intro b5 hg w2 hbox hb; have Nb5 := Aside0.mk (show b5 ≠ mb by intro he; have h1_ := HMemo.lt HM.out; omega); have Gb5 := Aside0.mk (show W.heap.size ≤ b5 by rw [hg]; exact HKp.out.size); have n1_ := Aside0.mk (HMemo.below HM.out hb); have n2_ := Aside0.mk (HKp.out.below hb); clear HM HKp; have HM := n1_; have HKp := n2_; clear n1_ n2_; have B5 := Aside0.mk hbox; clear hg hbox hb; have hb0 : w2.cell? ⟨b5, 0, none⟩ = some (.int .i64 x) := (blk_cell B5.out 0).trans rfl; have hb1 : w2.cell? ⟨b5, 1, none⟩ = some (.int .i64 y) := (blk_cell B5.out 1).trans rfl; have hb2 : w2.cell? ⟨b5, 2, none⟩ = some (.int .i64 z) := (blk_cell B5.out 2).trans rfl; have hb3 : w2.cell? ⟨b5, 3, none⟩ = some (.int .i64 e) := (blk_cell B5.out 3).trans rfl; skip)
    | (go_at_call 44; with_reducible refine (HPB.out _).mono ?_; rintro e_ w3 ⟨rfl, hb⟩; have n1_ := Aside0.mk (HMemo.below HM.out hb); have n2_ := Aside0.mk (HKp.out.below hb); clear HM HKp; have HM := n1_; have HKp := n2_; clear n1_ n2_; clear B5 hb0 hb1 hb2 hb3 hb)
    | ((with_reducible refine gate_dst (N := 9) rfl ?_); refine box_event ?hg (N := 9) ?hd (cs := #[.int .i64 0, .int .i64 0, .int .i64 0, .int .i64 0]) (t := 40) ?hr ?_; (case hd => rfl); (case hg => rfl); (case hr => first | (go_simp; done) | (go_simp; rfl)); intro b9 hg w4 hbox hb; have Nb9 := Aside0.mk (show b9 ≠ mb by intro he; have h1_ := HMemo.lt HM.out; omega); have Gb9 := Aside0.mk (show W.heap.size ≤ b9 by rw [hg]; exact HKp.out.size); have n1_ := Aside0.mk (HMemo.below HM.out hb); have n2_ := Aside0.mk (HKp.out.below hb); clear HM HKp; have HM := n1_; have HKp := n2_; clear n1_ n2_; have B9 := Aside0.mk hbox; clear hg hbox hb; have hz0 : w4.cell? ⟨b9, 0, none⟩ = some (.int .i64 0) := (blk_cell B9.out 0).trans rfl; have hz1 : w4.cell? ⟨b9, 1, none⟩ = some (.int .i64 0) := (blk_cell B9.out 1).trans rfl; have hz2 : w4.cell? ⟨b9, 2, none⟩ = some (.int .i64 0) := (blk_cell B9.out 2).trans rfl; have hz3 : w4.cell? ⟨b9, 3, none⟩ = some (.int .i64 0) := (blk_cell B9.out 3).trans rfl; skip)
    | ((with_reducible refine gate_dst (N := 10) rfl ?_); refine box_event ?hg (N := 10) ?hd (cs := #[.int .i64 0, .int .i64 0, .int .i64 0, .int .i64 0]) (t := 40) ?hr ?_; (case hd => rfl); (case hg => rfl); (case hr => first | (go_simp; done) | (go_simp; rfl)); intro b10 hg w5 hbox hb; have Nb10 := Aside0.mk (show b10 ≠ mb by intro he; have h1_ := HMemo.lt HM.out; omega); have Gb10 := Aside0.mk (show W.heap.size ≤ b10 by rw [hg]; exact HKp.out.size); have Nb9b10 := Aside0.mk (show b9 ≠ b10 by rw [hg]; exact Nat.ne_of_lt (blk_lt B9.out)); have n1_ := Aside0.mk (HMemo.below HM.out hb); have n2_ := Aside0.mk (HKp.out.below hb); clear HM HKp; have HM := n1_; have HKp := n2_; clear n1_ n2_; have n1_ := Aside0.mk (blk_below B9.out hb); clear B9; have B9 := n1_; clear n1_; have B10 := Aside0.mk hbox; clear hg hbox hb; clear hz0 hz1 hz2 hz3; have hz0 : w5.cell? ⟨b9, 0, none⟩ = some (.int .i64 0) := (blk_cell B9.out 0).trans rfl; have hz1 : w5.cell? ⟨b9, 1, none⟩ = some (.int .i64 0) := (blk_cell B9.out 1).trans rfl; have hz2 : w5.cell? ⟨b9, 2, none⟩ = some (.int .i64 0) := (blk_cell B9.out 2).trans rfl; have hz3 : w5.cell? ⟨b9, 3, none⟩ = some (.int .i64 0) := (blk_cell B9.out 3).trans rfl; skip)
    | ((with_reducible refine gate_store (t := 40) (p := 9) rfl ?_); have hfz0 := blk_frozen B9.out 0; have hfz1 := blk_frozen B9.out 1; have hfz2 := blk_frozen B9.out 2; have hfz3 := blk_frozen B9.out 3; refine store_event (t := 40) (p := 9) (v := .tmp 16) (w1 := ((((w5.setCell ⟨b9, 0, none⟩ (.int .i64 x1)).setCell ⟨b9, 1, none⟩ (.int .i64 y1)).setCell ⟨b9, 2, none⟩ (.int .i64 z1)).setCell ⟨b9, 3, none⟩ (.int .i64 e1))) ?hg ?ho ?hn ?hr ?_; (case ho => rfl); (case hg => rfl); (case hn => rfl); (case hr => first | (go_simp; done) | (go_simp; rfl)); intro w6 hw; have n1_ : Aside0 (HMemo w6 mb) := ⟨by rw [hw]; exact HM.out.step (heap_set4 _ (Ne.symm Nb9.out) _ _ _ _)⟩; have n2_ : Aside0 (KeptM W w6 mb) := ⟨by rw [hw]; exact HKp.out.set4 Gb9.out _ _ _ _⟩; have n3_ : Aside0 (w6.heap[b9]? = some (.cells #[.int .i64 x1, .int .i64 y1, .int .i64 z1, .int .i64 e1] 40 (0, 0))) := ⟨by rw [hw]; exact blk_put4 B9.out (.int .i64 x1) (.int .i64 y1) (.int .i64 z1) (.int .i64 e1)⟩; have m0_ : Aside0 (w6.heap[b10]? = some (.cells #[.int .i64 0, .int .i64 0, .int .i64 0, .int .i64 0] 40 (0, 0))) := ⟨by rw [hw]; exact blk_set4 B10.out (Ne.symm Nb9b10.out) (.int .i64 x1) (.int .i64 y1) (.int .i64 z1) (.int .i64 e1)⟩; clear HM HKp B9 B10 hw hfz0 hfz1 hfz2 hfz3; have HM := n1_; have HKp := n2_; have B9 := n3_; clear n1_ n2_ n3_; have B10 := m0_; clear m0_; clear hz0 hz1 hz2 hz3; have hz0 : w6.cell? ⟨b10, 0, none⟩ = some (.int .i64 0) := (blk_cell B10.out 0).trans rfl; have hz1 : w6.cell? ⟨b10, 1, none⟩ = some (.int .i64 0) := (blk_cell B10.out 1).trans rfl; have hz2 : w6.cell? ⟨b10, 2, none⟩ = some (.int .i64 0) := (blk_cell B10.out 2).trans rfl; have hz3 : w6.cell? ⟨b10, 3, none⟩ = some (.int .i64 0) := (blk_cell B10.out 3).trans rfl; skip)
    | ((with_reducible refine gate_store (t := 40) (p := 10) rfl ?_); have hfz0 := blk_frozen B10.out 0; have hfz1 := blk_frozen B10.out 1; have hfz2 := blk_frozen B10.out 2; have hfz3 := blk_frozen B10.out 3; refine store_event (t := 40) (p := 10) (v := .tmp 17) (w1 := ((((w6.setCell ⟨b10, 0, none⟩ (.int .i64 x2)).setCell ⟨b10, 1, none⟩ (.int .i64 y2)).setCell ⟨b10, 2, none⟩ (.int .i64 z2)).setCell ⟨b10, 3, none⟩ (.int .i64 e2))) ?hg ?ho ?hn ?hr ?_; (case ho => rfl); (case hg => rfl); (case hn => rfl); (case hr => first | (go_simp; done) | (go_simp; rfl)); intro w7 hw; have n1_ : Aside0 (HMemo w7 mb) := ⟨by rw [hw]; exact HM.out.step (heap_set4 _ (Ne.symm Nb10.out) _ _ _ _)⟩; have n2_ : Aside0 (KeptM W w7 mb) := ⟨by rw [hw]; exact HKp.out.set4 Gb10.out _ _ _ _⟩; have n3_ : Aside0 (w7.heap[b10]? = some (.cells #[.int .i64 x2, .int .i64 y2, .int .i64 z2, .int .i64 e2] 40 (0, 0))) := ⟨by rw [hw]; exact blk_put4 B10.out (.int .i64 x2) (.int .i64 y2) (.int .i64 z2) (.int .i64 e2)⟩; have m0_ : Aside0 (w7.heap[b9]? = some (.cells #[.int .i64 x1, .int .i64 y1, .int .i64 z1, .int .i64 e1] 40 (0, 0))) := ⟨by rw [hw]; exact blk_set4 B9.out Nb9b10.out (.int .i64 x2) (.int .i64 y2) (.int .i64 z2) (.int .i64 e2)⟩; clear HM HKp B10 B9 hw hfz0 hfz1 hfz2 hfz3; have HM := n1_; have HKp := n2_; have B10 := n3_; clear n1_ n2_ n3_; have B9 := m0_; clear m0_; clear hz0 hz1 hz2 hz3; skip))
  have n9_ := Aside0.mk (blk_drew B9.out)
  have n10_ := Aside0.mk (blk_drew B10.out)
  have n1_ := Aside0.mk (HMemo.step (w' := w7.drew) HM.out rfl)
  have n2_ := Aside0.mk HKp.out.drew
  clear B9 B10 HM HKp
  have B9 := n9_
  have B10 := n10_
  have HM := n1_
  have HKp := n2_
  clear n9_ n10_ n1_ n2_
  refine start_ (n := 9) (S := fun w' => w'.cell? ⟨b9, 0, none⟩ = some (.int .i64 x1) ∧ w'.cell? ⟨b9, 1, none⟩ = some (.int .i64 y1) ∧ w'.cell? ⟨b9, 2, none⟩ = some (.int .i64 z1) ∧ w'.cell? ⟨b9, 3, none⟩ = some (.int .i64 e1) ∧ w'.cell? ⟨b10, 0, none⟩ = some (.int .i64 x2) ∧ w'.cell? ⟨b10, 1, none⟩ = some (.int .i64 y2) ∧ w'.cell? ⟨b10, 2, none⟩ = some (.int .i64 z2) ∧ w'.cell? ⟨b10, 3, none⟩ = some (.int .i64 e2)) (ds := []) #[false, false, false, false, false, false, false, false, false] (by kernel_rfl) rfl rfl ⟨(blk_cell B9.out 0).trans rfl, (blk_cell B9.out 1).trans rfl, (blk_cell B9.out 2).trans rfl, (blk_cell B9.out 3).trans rfl, (blk_cell B10.out 0).trans rfl, (blk_cell B10.out 1).trans rfl, (blk_cell B10.out 2).trans rfl, (blk_cell B10.out 3).trans rfl⟩ (fun hHeld => ?_)
  refine pure_ (i := 0) (N := some 18) (v := ?_) (a' := ?_) #[true, false, false, false, false, false, false, false, false] rfl rfl (by kernel_rfl) (fun _ _ _ h => h) (Or.inl ⟨by rfl, ?_⟩) ?_ ?_
  rotate_left
  · intro w'
    go_simp
    with_reducible rfl
  rotate_left
  · simp only [Act.put, List.setIfInBounds_toArray, List.set_cons_zero, List.set_cons_succ, i64_w, i32_w]
    rfl
  refine pure_ (i := 3) (N := some 21) (v := ?_) (a' := ?_) #[true, false, false, true, false, false, false, false, false] rfl rfl (by kernel_rfl) (fun _ _ _ h => h) (Or.inl ⟨by rfl, ?_⟩) ?_ ?_
  rotate_left
  · intro w'
    go_simp
    with_reducible rfl
  rotate_left
  · simp only [Act.put, List.setIfInBounds_toArray, List.set_cons_zero, List.set_cons_succ, i64_w, i32_w]
    rfl
  refine take_ (i := 1) (N := some 19) (v := ?_) (a' := ?_) #[true, true, false, true, false, false, false, false, false] rfl rfl (by kernel_rfl) (fun _ _ _ h => h) (Or.inl ⟨by rfl, ?_⟩) hHeld ?_ ?_
  rotate_left
  · rintro w' ⟨s0, s1, s2, s3, s4, s5, s6, s7⟩
    go_simp
    with_reducible rfl
  rotate_left
  · simp only [Act.put, List.setIfInBounds_toArray, List.set_cons_zero, List.set_cons_succ, i64_w, i32_w]
    rfl
  refine take_ (i := 4) (N := some 22) (v := ?_) (a' := ?_) #[true, true, false, true, true, false, false, false, false] rfl rfl (by kernel_rfl) (fun _ _ _ h => h) (Or.inl ⟨by rfl, ?_⟩) hHeld ?_ ?_
  rotate_left
  · rintro w' ⟨s0, s1, s2, s3, s4, s5, s6, s7⟩
    go_simp
    with_reducible rfl
  rotate_left
  · simp only [Act.put, List.setIfInBounds_toArray, List.set_cons_zero, List.set_cons_succ, i64_w, i32_w]
    rfl
  refine one_ (i := 2) (N := some 20) #[true, true, true, true, true, false, false, false, false] rfl rfl (by kernel_rfl) (by decide) (fun K hK => ?_)
  refine goes_ Try.func22 (by kernel_rfl) rfl #[.map (some mb), .agg #[.int .i64 x1, .int .i64 y1, .int .i64 z1, .int .i64 e1]] (by rfl) rfl rfl (by (try simp only [List.map_toArray, List.map_cons, List.map_nil]); first | done | rfl) ?_
  with_reducible refine (HF1.out _ HM.out).mono ?_
  rintro e_ w8 ⟨rfl, hM, hk⟩
  refine ⟨_, rfl, ?_⟩
  have n2_ := Aside0.mk (HKp.out.then_ hk)
  have n9_ := Aside0.mk (blk_kept B9.out hk.one Nb9.out)
  have n10_ := Aside0.mk (blk_kept B10.out hk.one Nb10.out)
  clear HM HKp B9 B10
  have HM := Aside0.mk hM
  have HKp := n2_
  have B9 := n9_
  have B10 := n10_
  clear n2_ n9_ n10_ hM hk
  refine hK.out _ _ ⟨(blk_cell B9.out 0).trans rfl, (blk_cell B9.out 1).trans rfl, (blk_cell B9.out 2).trans rfl, (blk_cell B9.out 3).trans rfl, (blk_cell B10.out 0).trans rfl, (blk_cell B10.out 1).trans rfl, (blk_cell B10.out 2).trans rfl, (blk_cell B10.out 3).trans rfl⟩ (fun hHeld => ?_)
  clear hK K
  refine norm_ (a' := ?_) ?_ ?_
  rotate_left
  · show Act.put _ (some 20) _ = _
    simp only [Act.put, List.setIfInBounds_toArray, List.set_cons_zero, List.set_cons_succ, i64_w, i32_w]
    rfl
  refine one_ (i := 5) (N := some 23) #[true, true, true, true, true, true, false, false, false] rfl rfl (by kernel_rfl) (by decide) (fun K hK => ?_)
  refine goes_ Try.func22 (by kernel_rfl) rfl #[.map (some mb), .agg #[.int .i64 x2, .int .i64 y2, .int .i64 z2, .int .i64 e2]] (by rfl) rfl rfl (by (try simp only [List.map_toArray, List.map_cons, List.map_nil]); first | done | rfl) ?_
  with_reducible refine (HF2.out _ HM.out).mono ?_
  rintro e_ w8 ⟨rfl, hM, hk⟩
  refine ⟨_, rfl, ?_⟩
  have n2_ := Aside0.mk (HKp.out.then_ hk)
  have n9_ := Aside0.mk (blk_kept B9.out hk.one Nb9.out)
  have n10_ := Aside0.mk (blk_kept B10.out hk.one Nb10.out)
  clear HM HKp B9 B10
  have HM := Aside0.mk hM
  have HKp := n2_
  have B9 := n9_
  have B10 := n10_
  clear n2_ n9_ n10_ hM hk
  refine hK.out _ _ ⟨(blk_cell B9.out 0).trans rfl, (blk_cell B9.out 1).trans rfl, (blk_cell B9.out 2).trans rfl, (blk_cell B9.out 3).trans rfl, (blk_cell B10.out 0).trans rfl, (blk_cell B10.out 1).trans rfl, (blk_cell B10.out 2).trans rfl, (blk_cell B10.out 3).trans rfl⟩ (fun hHeld => ?_)
  clear hK K
  refine norm_ (a' := ?_) ?_ ?_
  rotate_left
  · show Act.put _ (some 23) _ = _
    simp only [Act.put, List.setIfInBounds_toArray, List.set_cons_zero, List.set_cons_succ, i64_w, i32_w]
    rfl
  refine pure_ (i := 6) (N := some 24) (v := ?_) (a' := ?_) #[true, true, true, true, true, true, true, false, false] rfl rfl (by kernel_rfl) (fun _ _ _ h => h) (Or.inl ⟨by rfl, ?_⟩) ?_ ?_
  rotate_left
  · intro w'
    go_simp
    with_reducible rfl
  rotate_left
  · simp only [Act.put, List.setIfInBounds_toArray, List.set_cons_zero, List.set_cons_succ, i64_w, i32_w]
    rfl
  refine pure_ (i := 7) (N := some 25) (v := ?_) (a' := ?_) #[true, true, true, true, true, true, true, true, false] rfl rfl (by kernel_rfl) (fun _ _ _ h => h) (Or.inl ⟨by rfl, ?_⟩) ?_ ?_
  rotate_left
  · intro w'
    go_simp
    with_reducible rfl
  rotate_left
  · simp only [Act.put, List.setIfInBounds_toArray, List.set_cons_zero, List.set_cons_succ, i64_w, i32_w]
    rfl
  refine pure_ (i := 8) (N := some 8) (v := ?_) (a' := ?_) #[true, true, true, true, true, true, true, true, true] rfl rfl (by kernel_rfl) (fun _ _ _ h => h) (Or.inl ⟨by rfl, ?_⟩) ?_ ?_
  rotate_left
  · intro w'
    go_simp
    with_reducible rfl
  rotate_left
  · simp only [Act.put, List.setIfInBounds_toArray, List.set_cons_zero, List.set_cons_succ, i64_w, i32_w]
    rfl
  refine done_ (by kernel_rfl) ?_
  go_wp2
  go_ret
  exact ⟨rfl, HM.out, HKp.out⟩
set_option maxHeartbeats 8000000 in
set_option maxRecDepth 100000 in
theorem hleast_step (m : Nat) (hP : HLeastC m) : HLeastC (m + 1) := by
  intro e x y z mb W hk h0 h6 hm hM
  have HOK := Aside0.mk hk
  have HMU : Aside0 (hSum [x, y, z] ≤ m) := ⟨by omega⟩
  obtain ⟨nd, hndq⟩ : ∃ nd, hNeed [x, y, z] = nd := ⟨_, rfl⟩
  have HND : Aside0 (∀ (W' : World) (g : Nat), W'.heap[g]? = some (.cells #[.int .i64 x, .int .i64 y, .int .i64 z, .int .i64 e] 40 (0, 0)) → Calls Try.prog 27 #[.slice (some ⟨g, 0, none⟩) 3 3] W' fun e_ w' => e_ = .returned (.int .i64 nd) ∧ Below W'.heap.size W' w') := ⟨fun W' g hb => by
    have h := impl_eggsNeeded.calls 10 (some ⟨g, 0, none⟩) 3 [x, y, z] nd W' (blk_row3 hb) (Nat.le_refl _) (by rw [← hndq]; exact eggs_is _ (Nat.le_refl _))
    refine h.mono ?_
    rintro e_ w_ ⟨rfl, hd⟩
    exact ⟨rfl, drawn_below hd⟩⟩
  have hval := hVal_eq e [x, y, z] hk
  have hnd := hNeed_nonneg [x, y, z]
  rw [hndq] at hval hnd
  have HM := Aside0.mk hM
  have HKp := Aside0.mk (KeptM.refl W mb)
  clear hndq hk hm
  by_cases hz : nd = 0
  · rw [if_pos hz] at hval
    have HV := Aside0.mk hval
    have hq1 : (nd == 0) = true := by rw [beq_iff_eq]; exact hz
    clear hval hz hM
    go_enter Try.func22, Try.ntmps22
    go_wp2_with (first | ((with_reducible refine gate_dst (N := 3) rfl ?_); refine box_event ?hg (N := 3) ?hd (cs := #[.int .i64 x, .int .i64 y, .int .i64 z, .int .i64 e]) (t := 40) ?hr ?_; (case hd => rfl); (case hg => rfl); (case hr => first | (go_simp; done) | (go_simp; rfl)); intro b3 hg w2 hbox hb; have Nb3 := Aside0.mk (show b3 ≠ mb by intro he; have h1_ := HMemo.lt HM.out; omega); have Gb3 := Aside0.mk (show W.heap.size ≤ b3 by rw [hg]; exact HKp.out.size); have n1_ := Aside0.mk (HMemo.below HM.out hb); have n2_ := Aside0.mk (HKp.out.below hb); clear HM HKp; have HM := n1_; have HKp := n2_; clear n1_ n2_; have B3 := Aside0.mk hbox; clear hg hbox hb; have hb0 : w2.cell? ⟨b3, 0, none⟩ = some (.int .i64 x) := (blk_cell B3.out 0).trans rfl; have hb1 : w2.cell? ⟨b3, 1, none⟩ = some (.int .i64 y) := (blk_cell B3.out 1).trans rfl; have hb2 : w2.cell? ⟨b3, 2, none⟩ = some (.int .i64 z) := (blk_cell B3.out 2).trans rfl; have hb3 : w2.cell? ⟨b3, 3, none⟩ = some (.int .i64 e) := (blk_cell B3.out 3).trans rfl; skip) | (go_at_call 27; with_reducible refine (HND.out _ _ B3.out).mono ?_; rintro e_ w3 ⟨rfl, hb⟩; have n1_ := Aside0.mk (HMemo.below HM.out hb); have n2_ := Aside0.mk (HKp.out.below hb); clear HM HKp; have HM := n1_; have HKp := n2_; clear n1_ n2_; have n1_ := Aside0.mk (blk_below B3.out hb); clear B3; have B3 := n1_; clear n1_; clear hb0 hb1 hb2 hb3; have hb0 : w3.cell? ⟨b3, 0, none⟩ = some (.int .i64 x) := (blk_cell B3.out 0).trans rfl; have hb1 : w3.cell? ⟨b3, 1, none⟩ = some (.int .i64 y) := (blk_cell B3.out 1).trans rfl; have hb2 : w3.cell? ⟨b3, 2, none⟩ = some (.int .i64 z) := (blk_cell B3.out 2).trans rfl; have hb3 : w3.cell? ⟨b3, 3, none⟩ = some (.int .i64 e) := (blk_cell B3.out 3).trans rfl; clear hb))
    go_ret
    exact ⟨by rw [HV.out]; rfl, HM.out, HKp.out⟩
  · rw [if_neg hz] at hval
    have hq1 : (nd == 0) = false := by rw [beq_eq_false_iff_ne]; exact hz
    by_cases hlt : e < nd
    · rw [if_pos hlt] at hval
      have HV := Aside0.mk hval
      clear hval hz hM
      go_enter Try.func22, Try.ntmps22
      go_wp2_with (first | ((with_reducible refine gate_dst (N := 3) rfl ?_); refine box_event ?hg (N := 3) ?hd (cs := #[.int .i64 x, .int .i64 y, .int .i64 z, .int .i64 e]) (t := 40) ?hr ?_; (case hd => rfl); (case hg => rfl); (case hr => first | (go_simp; done) | (go_simp; rfl)); intro b3 hg w2 hbox hb; have Nb3 := Aside0.mk (show b3 ≠ mb by intro he; have h1_ := HMemo.lt HM.out; omega); have Gb3 := Aside0.mk (show W.heap.size ≤ b3 by rw [hg]; exact HKp.out.size); have n1_ := Aside0.mk (HMemo.below HM.out hb); have n2_ := Aside0.mk (HKp.out.below hb); clear HM HKp; have HM := n1_; have HKp := n2_; clear n1_ n2_; have B3 := Aside0.mk hbox; clear hg hbox hb; have hb0 : w2.cell? ⟨b3, 0, none⟩ = some (.int .i64 x) := (blk_cell B3.out 0).trans rfl; have hb1 : w2.cell? ⟨b3, 1, none⟩ = some (.int .i64 y) := (blk_cell B3.out 1).trans rfl; have hb2 : w2.cell? ⟨b3, 2, none⟩ = some (.int .i64 z) := (blk_cell B3.out 2).trans rfl; have hb3 : w2.cell? ⟨b3, 3, none⟩ = some (.int .i64 e) := (blk_cell B3.out 3).trans rfl; skip) | (go_at_call 27; with_reducible refine (HND.out _ _ B3.out).mono ?_; rintro e_ w3 ⟨rfl, hb⟩; have n1_ := Aside0.mk (HMemo.below HM.out hb); have n2_ := Aside0.mk (HKp.out.below hb); clear HM HKp; have HM := n1_; have HKp := n2_; clear n1_ n2_; have n1_ := Aside0.mk (blk_below B3.out hb); clear B3; have B3 := n1_; clear n1_; clear hb0 hb1 hb2 hb3; have hb0 : w3.cell? ⟨b3, 0, none⟩ = some (.int .i64 x) := (blk_cell B3.out 0).trans rfl; have hb1 : w3.cell? ⟨b3, 1, none⟩ = some (.int .i64 y) := (blk_cell B3.out 1).trans rfl; have hb2 : w3.cell? ⟨b3, 2, none⟩ = some (.int .i64 z) := (blk_cell B3.out 2).trans rfl; have hb3 : w3.cell? ⟨b3, 3, none⟩ = some (.int .i64 e) := (blk_cell B3.out 3).trans rfl; clear hb))
      go_ret
      exact ⟨by rw [HV.out]; rfl, HM.out, HKp.out⟩
    · rw [if_neg hlt] at hval
      have HV := Aside0.mk hval
      have he1 : 1 ≤ e := by omega
      obtain ⟨xv, kn, hlk, hkn⟩ := HMemo.look hM e [x, y, z] HOK.out h0 h6
      have HLK : Aside0 (∀ w' : World, w'.heap[mb]? = W.heap[mb]? → (Instr.lookup 36 (.map (some mb)) (.agg #[.int .i64 x, .int .i64 y, .int .i64 z, .int .i64 e]) true).run Try.prog w' = .ok (.tuple #[.int .i64 xv, .bool kn]) w') := ⟨hlk⟩
      clear hlk hval hz
      have hML := HMemo.lt hM
      have HSM : Aside0 (∀ w', KeptM W w' mb → Below W.heap.size W w' → w'.heap[mb]? = W.heap[mb]?) := ⟨fun w' _ hb => hb.block mb hML⟩
      clear hM
      cases kn with
      | true =>
        have HX := Aside0.mk (hkn rfl)
        have HBW := Aside0.mk (Below.refl W.heap.size W)
        clear hkn
        go_enter Try.func22, Try.ntmps22
        go_wp2_with (first | ((with_reducible refine gate_dst (N := 3) rfl ?_); refine box_event ?hg (N := 3) ?hd (cs := #[.int .i64 x, .int .i64 y, .int .i64 z, .int .i64 e]) (t := 40) ?hr ?_; (case hd => rfl); (case hg => rfl); (case hr => first | (go_simp; done) | (go_simp; rfl)); intro b3 hg w2 hbox hb; have Nb3 := Aside0.mk (show b3 ≠ mb by intro he; have h1_ := HMemo.lt HM.out; omega); have Gb3 := Aside0.mk (show W.heap.size ≤ b3 by rw [hg]; exact HKp.out.size); have n1_ := Aside0.mk (HMemo.below HM.out hb); have n2_ := Aside0.mk (HKp.out.below hb); clear HM HKp; have HM := n1_; have HKp := n2_; clear n1_ n2_; have B3 := Aside0.mk hbox; have n1_ := Aside0.mk (below_step HBW.out hb); clear HBW; have HBW := n1_; clear n1_; clear hg hbox hb; have hb0 : w2.cell? ⟨b3, 0, none⟩ = some (.int .i64 x) := (blk_cell B3.out 0).trans rfl; have hb1 : w2.cell? ⟨b3, 1, none⟩ = some (.int .i64 y) := (blk_cell B3.out 1).trans rfl; have hb2 : w2.cell? ⟨b3, 2, none⟩ = some (.int .i64 z) := (blk_cell B3.out 2).trans rfl; have hb3 : w2.cell? ⟨b3, 3, none⟩ = some (.int .i64 e) := (blk_cell B3.out 3).trans rfl; skip) | (go_at_call 27; with_reducible refine (HND.out _ _ B3.out).mono ?_; rintro e_ w3 ⟨rfl, hb⟩; have n1_ := Aside0.mk (HMemo.below HM.out hb); have n2_ := Aside0.mk (HKp.out.below hb); clear HM HKp; have HM := n1_; have HKp := n2_; clear n1_ n2_; have n1_ := Aside0.mk (blk_below B3.out hb); clear B3; have B3 := n1_; clear n1_; clear hb0 hb1 hb2 hb3; have hb0 : w3.cell? ⟨b3, 0, none⟩ = some (.int .i64 x) := (blk_cell B3.out 0).trans rfl; have hb1 : w3.cell? ⟨b3, 1, none⟩ = some (.int .i64 y) := (blk_cell B3.out 1).trans rfl; have hb2 : w3.cell? ⟨b3, 2, none⟩ = some (.int .i64 z) := (blk_cell B3.out 2).trans rfl; have hb3 : w3.cell? ⟨b3, 3, none⟩ = some (.int .i64 e) := (blk_cell B3.out 3).trans rfl; have n1_ := Aside0.mk (below_step HBW.out hb); clear HBW; have HBW := n1_; clear n1_; have hlk1 : (Instr.lookup 36 (.map (some mb)) (.agg #[.int .i64 x, .int .i64 y, .int .i64 z, .int .i64 e]) true).run Try.prog w3 = .ok (.tuple #[.int .i64 xv, .bool true]) w3 := HLK.out w3 (HSM.out w3 HKp.out HBW.out); clear hb))
        go_ret
        exact ⟨by rw [HX.out]; rfl, HM.out, HKp.out⟩
      | false =>
        have HBW := Aside0.mk (Below.refl W.heap.size W)
        clear hkn
        go_enter Try.func22, Try.ntmps22
        go_wp2_with (first | ((with_reducible refine gate_dst (N := 3) rfl ?_); refine box_event ?hg (N := 3) ?hd (cs := #[.int .i64 x, .int .i64 y, .int .i64 z, .int .i64 e]) (t := 40) ?hr ?_; (case hd => rfl); (case hg => rfl); (case hr => first | (go_simp; done) | (go_simp; rfl)); intro b3 hg w2 hbox hb; have Nb3 := Aside0.mk (show b3 ≠ mb by intro he; have h1_ := HMemo.lt HM.out; omega); have Gb3 := Aside0.mk (show W.heap.size ≤ b3 by rw [hg]; exact HKp.out.size); have n1_ := Aside0.mk (HMemo.below HM.out hb); have n2_ := Aside0.mk (HKp.out.below hb); clear HM HKp; have HM := n1_; have HKp := n2_; clear n1_ n2_; have B3 := Aside0.mk hbox; have n1_ := Aside0.mk (below_step HBW.out hb); clear HBW; have HBW := n1_; clear n1_; clear hg hbox hb; have hb0 : w2.cell? ⟨b3, 0, none⟩ = some (.int .i64 x) := (blk_cell B3.out 0).trans rfl; have hb1 : w2.cell? ⟨b3, 1, none⟩ = some (.int .i64 y) := (blk_cell B3.out 1).trans rfl; have hb2 : w2.cell? ⟨b3, 2, none⟩ = some (.int .i64 z) := (blk_cell B3.out 2).trans rfl; have hb3 : w2.cell? ⟨b3, 3, none⟩ = some (.int .i64 e) := (blk_cell B3.out 3).trans rfl; skip) | (go_at_call 27; with_reducible refine (HND.out _ _ B3.out).mono ?_; rintro e_ w3 ⟨rfl, hb⟩; have n1_ := Aside0.mk (HMemo.below HM.out hb); have n2_ := Aside0.mk (HKp.out.below hb); clear HM HKp; have HM := n1_; have HKp := n2_; clear n1_ n2_; have n1_ := Aside0.mk (blk_below B3.out hb); clear B3; have B3 := n1_; clear n1_; clear hb0 hb1 hb2 hb3; have hb0 : w3.cell? ⟨b3, 0, none⟩ = some (.int .i64 x) := (blk_cell B3.out 0).trans rfl; have hb1 : w3.cell? ⟨b3, 1, none⟩ = some (.int .i64 y) := (blk_cell B3.out 1).trans rfl; have hb2 : w3.cell? ⟨b3, 2, none⟩ = some (.int .i64 z) := (blk_cell B3.out 2).trans rfl; have hb3 : w3.cell? ⟨b3, 3, none⟩ = some (.int .i64 e) := (blk_cell B3.out 3).trans rfl; have n1_ := Aside0.mk (below_step HBW.out hb); clear HBW; have HBW := n1_; clear n1_; have hlk1 : (Instr.lookup 36 (.map (some mb)) (.agg #[.int .i64 x, .int .i64 y, .int .i64 z, .int .i64 e]) true).run Try.prog w3 = .ok (.tuple #[.int .i64 xv, .bool false]) w3 := HLK.out w3 (HSM.out w3 HKp.out HBW.out); clear hb))
        clear hlk1 hb0 hb1 hb2 hb3
        go_loopg [8, 33] 3 (fun gg v8 v33 wr => ∃ (q : Nat) (o : Int), v33 = .int .i64 q ∧ v8 = .int .i64 o ∧ q ≤ 3 ∧ 3 - q ≤ gg ∧ Aside0 (o = hFold e [x, y, z] (hFrom 0 ([x, y, z].take q)) hNever) ∧ Aside0 (HMemo wr mb) ∧ Aside0 (KeptM W wr mb) ∧ Aside0 (wr.heap[b3]? = some (.cells #[.int .i64 x, .int .i64 y, .int .i64 z, .int .i64 e] 40 (0, 0))))
        case atStart => exact ⟨0, 1125899906842624, rfl, rfl, Nat.zero_le _, Nat.le_refl _, ⟨rfl⟩, HM, HKp, B3⟩
        case round =>
          clear HM HKp B3 HBW HLK HSM HND
          obtain ⟨q, o, rfl, rfl, hq, hgg, HO, HM, HKp, B3⟩ := hrel
          have hb0 : wr.cell? ⟨b3, 0, none⟩ = some (.int .i64 x) := (blk_cell B3.out 0).trans rfl
          have hb1 : wr.cell? ⟨b3, 1, none⟩ = some (.int .i64 y) := (blk_cell B3.out 1).trans rfl
          have hb2 : wr.cell? ⟨b3, 2, none⟩ = some (.int .i64 z) := (blk_cell B3.out 2).trans rfl
          have hb3 : wr.cell? ⟨b3, 3, none⟩ = some (.int .i64 e) := (blk_cell B3.out 3).trans rfl
          rcases (by omega : q = 0 ∨ q = 1 ∨ q = 2 ∨ q = 3) with rfl | rfl | rfl | rfl
          · have hxi : 0 ≤ x ∧ x ≤ 8 := hOk_get HOK.out 0
            have HTK : Aside0 (hFold e [x, y, z] (hRow 0 x) o = hFold e [x, y, z] (hFrom 0 ([x, y, z].take (0 + 1))) hNever) := ⟨by
              have h9 := hFrom_take [x, y, z] 0 0 (by simp)
              rw [Nat.zero_add] at h9
              rw [h9, hFold_append, ← HO.out]; rfl⟩
            have HDR : Aside0 (∀ (j : Nat) (W1 : World), (j : Int) < x → HMemo W1 mb → Calls Try.prog 35 #[.map (some mb), .agg #[.int .i64 x, .int .i64 y, .int .i64 z, .int .i64 e], .int .i64 0, .int .i64 (1 + (j : Int))] W1 fun e' w' => e' = .returned (.int .i64 (hW e [x, y, z] (0, 1 + (j : Int)))) ∧ HMemo w' mb ∧ KeptM W1 w' mb) :=
              ⟨fun j W1 hj a1 => hwith_of m hP e x y z HOK.out he1 h6 HMU.out 0 (1 + (j : Int)) (hDrop_in [x, y, z] 0 j (by simp) hj) mb W1 a1⟩
            have HWR := Aside0.mk (fun j => hW_range e [x, y, z] (0, j))
            obtain ⟨xn, hxn⟩ : ∃ xn : Nat, x = (xn : Int) := ⟨(x).toNat, by omega⟩
            have HXN := Aside0.mk hxn
            clear hxn HO
            have HTK2 : Aside0 (hFold e [x, y, z] (hRow 0 (xn : Int)) o = hFold e [x, y, z] (hFrom 0 ([x, y, z].take (0 + 1))) hNever) := ⟨by rw [← HXN.out]; exact HTK.out⟩
            clear HTK
            have hix : (Instr.index 38 (.agg #[.int .i64 x, .int .i64 y, .int .i64 z]) (.int .i64 0)).run Try.prog wr = .ok (.int .i64 x) wr := by first | rfl | kernel_rfl
            go_wp2
            clear hix
            go_loopg [8, 11] xn (fun gg v8 v11 wr => ∃ (j : Nat) (o2 : Int), v11 = .int .i64 (1 + (j : Int)) ∧ v8 = .int .i64 o2 ∧ j ≤ xn ∧ xn - j ≤ gg ∧ Aside0 (o2 = hFold e [x, y, z] (hRow 0 (j : Int)) o) ∧ Aside0 (HMemo wr mb) ∧ Aside0 (KeptM W wr mb) ∧ Aside0 (wr.heap[b3]? = some (.cells #[.int .i64 x, .int .i64 y, .int .i64 z, .int .i64 e] 40 (0, 0))))
            case atStart => exact ⟨0, o, by simp, rfl, Nat.zero_le _, Nat.le_refl _, ⟨rfl⟩, HM, HKp, B3⟩
            case round =>
              clear HM HKp B3 hb0 hb1 hb2 hb3
              obtain ⟨j, o2, rfl, rfl, hj, hgg2, HO2, HM, HKp, B3⟩ := hrel
              by_cases hjn : j < xn
              · have hz2 : 1 + (j : Int) ≤ x := by have h9_ := HXN.out; omega
                have hyr := HWR.out (1 + (j : Int))
                have HN : Aside0 (min o2 (hW e [x, y, z] (0, 1 + (j : Int))) = hFold e [x, y, z] (hRow 0 ((j + 1 : Nat) : Int)) o) := ⟨by
                  rw [hRow_succ, hFold_append, ← HO2.out]; rfl⟩
                have HWI : Aside0 (∀ (W1 : World), HMemo W1 mb → Calls Try.prog 35 #[.map (some mb), .agg #[.int .i64 x, .int .i64 y, .int .i64 z, .int .i64 e], .int .i64 0, .int .i64 (1 + (j : Int))] W1 fun e' w' => e' = .returned (.int .i64 (hW e [x, y, z] (0, 1 + (j : Int)))) ∧ HMemo w' mb ∧ KeptM W1 w' mb) := ⟨fun W1 a1 => HDR.out j W1 (by have h9_ := HXN.out; omega) a1⟩
                generalize hW e [x, y, z] (0, 1 + (j : Int)) = u at hyr HN HWI
                have hmn : (if u < o2 then u else o2) = min o2 u := by split <;> omega
                generalize min o2 u = o3 at HN hmn
                have hw1 : IntKind.i64.wrap (1 + (j : Int) + 1) = 1 + (j : Int) + 1 := by clear hmn; rw [i64_w]; unfold wrap64; omega
                clear HO2
                have hb0 : wr.cell? ⟨b3, 0, none⟩ = some (.int .i64 x) := (blk_cell B3.out 0).trans rfl
                have hb1 : wr.cell? ⟨b3, 1, none⟩ = some (.int .i64 y) := (blk_cell B3.out 1).trans rfl
                have hb2 : wr.cell? ⟨b3, 2, none⟩ = some (.int .i64 z) := (blk_cell B3.out 2).trans rfl
                have hb3 : wr.cell? ⟨b3, 3, none⟩ = some (.int .i64 e) := (blk_cell B3.out 3).trans rfl
                go_wp2_with (go_at_call 35; with_reducible refine (HWI.out _ HM.out).mono ?_; rintro e_ w4 ⟨rfl, hM, hk⟩; have n2_ := Aside0.mk (HKp.out.then_ hk); have n3_ := Aside0.mk (blk_kept B3.out hk.one Nb3.out); clear HM HKp B3 hb0 hb1 hb2 hb3; have HM := Aside0.mk hM; have HKp := n2_; have B3 := n3_; clear n2_ n3_ hM hk)
                go_roundg (xn - (j + 1))
                case measure => omega
                case rel => exact ⟨j + 1, o3, by rw [show 1 + ((j + 1 : Nat) : Int) = 1 + (j : Int) + 1 by clear hw1 hmn; omega], rfl, by clear hw1 hmn; omega, by clear hw1 hmn; omega, HN, HM, HKp, B3⟩
              · have hz2 : ¬ 1 + (j : Int) ≤ x := by have h9_ := HXN.out; omega
                obtain rfl : j = xn := by omega
                have HN : Aside0 (o2 = hFold e [x, y, z] (hFrom 0 ([x, y, z].take (0 + 1))) hNever) := ⟨by rw [HO2.out, HTK2.out]⟩
                clear HO2 HTK2 HDR HWR
                go_wp2
                go_roundg (3 - (0 + 1))
                case measure => omega
                case rel => exact ⟨0 + 1, o2, by go_num, rfl, by omega, by omega, HN, HM, HKp, B3⟩

          · have hxi : 0 ≤ y ∧ y ≤ 8 := hOk_get HOK.out 1
            have HTK : Aside0 (hFold e [x, y, z] (hRow 1 y) o = hFold e [x, y, z] (hFrom 0 ([x, y, z].take (1 + 1))) hNever) := ⟨by
              have h9 := hFrom_take [x, y, z] 0 1 (by simp)
              rw [Nat.zero_add] at h9
              rw [h9, hFold_append, ← HO.out]; rfl⟩
            have HDR : Aside0 (∀ (j : Nat) (W1 : World), (j : Int) < y → HMemo W1 mb → Calls Try.prog 35 #[.map (some mb), .agg #[.int .i64 x, .int .i64 y, .int .i64 z, .int .i64 e], .int .i64 1, .int .i64 (1 + (j : Int))] W1 fun e' w' => e' = .returned (.int .i64 (hW e [x, y, z] (1, 1 + (j : Int)))) ∧ HMemo w' mb ∧ KeptM W1 w' mb) :=
              ⟨fun j W1 hj a1 => hwith_of m hP e x y z HOK.out he1 h6 HMU.out 1 (1 + (j : Int)) (hDrop_in [x, y, z] 1 j (by simp) hj) mb W1 a1⟩
            have HWR := Aside0.mk (fun j => hW_range e [x, y, z] (1, j))
            obtain ⟨xn, hxn⟩ : ∃ xn : Nat, y = (xn : Int) := ⟨(y).toNat, by omega⟩
            have HXN := Aside0.mk hxn
            clear hxn HO
            have HTK2 : Aside0 (hFold e [x, y, z] (hRow 1 (xn : Int)) o = hFold e [x, y, z] (hFrom 0 ([x, y, z].take (1 + 1))) hNever) := ⟨by rw [← HXN.out]; exact HTK.out⟩
            clear HTK
            have hix : (Instr.index 38 (.agg #[.int .i64 x, .int .i64 y, .int .i64 z]) (.int .i64 1)).run Try.prog wr = .ok (.int .i64 y) wr := by first | rfl | kernel_rfl
            go_wp2
            clear hix
            go_loopg [8, 11] xn (fun gg v8 v11 wr => ∃ (j : Nat) (o2 : Int), v11 = .int .i64 (1 + (j : Int)) ∧ v8 = .int .i64 o2 ∧ j ≤ xn ∧ xn - j ≤ gg ∧ Aside0 (o2 = hFold e [x, y, z] (hRow 1 (j : Int)) o) ∧ Aside0 (HMemo wr mb) ∧ Aside0 (KeptM W wr mb) ∧ Aside0 (wr.heap[b3]? = some (.cells #[.int .i64 x, .int .i64 y, .int .i64 z, .int .i64 e] 40 (0, 0))))
            case atStart => exact ⟨0, o, by simp, rfl, Nat.zero_le _, Nat.le_refl _, ⟨rfl⟩, HM, HKp, B3⟩
            case round =>
              clear HM HKp B3 hb0 hb1 hb2 hb3
              obtain ⟨j, o2, rfl, rfl, hj, hgg2, HO2, HM, HKp, B3⟩ := hrel
              by_cases hjn : j < xn
              · have hz2 : 1 + (j : Int) ≤ y := by have h9_ := HXN.out; omega
                have hyr := HWR.out (1 + (j : Int))
                have HN : Aside0 (min o2 (hW e [x, y, z] (1, 1 + (j : Int))) = hFold e [x, y, z] (hRow 1 ((j + 1 : Nat) : Int)) o) := ⟨by
                  rw [hRow_succ, hFold_append, ← HO2.out]; rfl⟩
                have HWI : Aside0 (∀ (W1 : World), HMemo W1 mb → Calls Try.prog 35 #[.map (some mb), .agg #[.int .i64 x, .int .i64 y, .int .i64 z, .int .i64 e], .int .i64 1, .int .i64 (1 + (j : Int))] W1 fun e' w' => e' = .returned (.int .i64 (hW e [x, y, z] (1, 1 + (j : Int)))) ∧ HMemo w' mb ∧ KeptM W1 w' mb) := ⟨fun W1 a1 => HDR.out j W1 (by have h9_ := HXN.out; omega) a1⟩
                generalize hW e [x, y, z] (1, 1 + (j : Int)) = u at hyr HN HWI
                have hmn : (if u < o2 then u else o2) = min o2 u := by split <;> omega
                generalize min o2 u = o3 at HN hmn
                have hw1 : IntKind.i64.wrap (1 + (j : Int) + 1) = 1 + (j : Int) + 1 := by clear hmn; rw [i64_w]; unfold wrap64; omega
                clear HO2
                have hb0 : wr.cell? ⟨b3, 0, none⟩ = some (.int .i64 x) := (blk_cell B3.out 0).trans rfl
                have hb1 : wr.cell? ⟨b3, 1, none⟩ = some (.int .i64 y) := (blk_cell B3.out 1).trans rfl
                have hb2 : wr.cell? ⟨b3, 2, none⟩ = some (.int .i64 z) := (blk_cell B3.out 2).trans rfl
                have hb3 : wr.cell? ⟨b3, 3, none⟩ = some (.int .i64 e) := (blk_cell B3.out 3).trans rfl
                go_wp2_with (go_at_call 35; with_reducible refine (HWI.out _ HM.out).mono ?_; rintro e_ w4 ⟨rfl, hM, hk⟩; have n2_ := Aside0.mk (HKp.out.then_ hk); have n3_ := Aside0.mk (blk_kept B3.out hk.one Nb3.out); clear HM HKp B3 hb0 hb1 hb2 hb3; have HM := Aside0.mk hM; have HKp := n2_; have B3 := n3_; clear n2_ n3_ hM hk)
                go_roundg (xn - (j + 1))
                case measure => omega
                case rel => exact ⟨j + 1, o3, by rw [show 1 + ((j + 1 : Nat) : Int) = 1 + (j : Int) + 1 by clear hw1 hmn; omega], rfl, by clear hw1 hmn; omega, by clear hw1 hmn; omega, HN, HM, HKp, B3⟩
              · have hz2 : ¬ 1 + (j : Int) ≤ y := by have h9_ := HXN.out; omega
                obtain rfl : j = xn := by omega
                have HN : Aside0 (o2 = hFold e [x, y, z] (hFrom 0 ([x, y, z].take (1 + 1))) hNever) := ⟨by rw [HO2.out, HTK2.out]⟩
                clear HO2 HTK2 HDR HWR
                go_wp2
                go_roundg (3 - (1 + 1))
                case measure => omega
                case rel => exact ⟨1 + 1, o2, by go_num, rfl, by omega, by omega, HN, HM, HKp, B3⟩

          · have hxi : 0 ≤ z ∧ z ≤ 8 := hOk_get HOK.out 2
            have HTK : Aside0 (hFold e [x, y, z] (hRow 2 z) o = hFold e [x, y, z] (hFrom 0 ([x, y, z].take (2 + 1))) hNever) := ⟨by
              have h9 := hFrom_take [x, y, z] 0 2 (by simp)
              rw [Nat.zero_add] at h9
              rw [h9, hFold_append, ← HO.out]; rfl⟩
            have HDR : Aside0 (∀ (j : Nat) (W1 : World), (j : Int) < z → HMemo W1 mb → Calls Try.prog 35 #[.map (some mb), .agg #[.int .i64 x, .int .i64 y, .int .i64 z, .int .i64 e], .int .i64 2, .int .i64 (1 + (j : Int))] W1 fun e' w' => e' = .returned (.int .i64 (hW e [x, y, z] (2, 1 + (j : Int)))) ∧ HMemo w' mb ∧ KeptM W1 w' mb) :=
              ⟨fun j W1 hj a1 => hwith_of m hP e x y z HOK.out he1 h6 HMU.out 2 (1 + (j : Int)) (hDrop_in [x, y, z] 2 j (by simp) hj) mb W1 a1⟩
            have HWR := Aside0.mk (fun j => hW_range e [x, y, z] (2, j))
            obtain ⟨xn, hxn⟩ : ∃ xn : Nat, z = (xn : Int) := ⟨(z).toNat, by omega⟩
            have HXN := Aside0.mk hxn
            clear hxn HO
            have HTK2 : Aside0 (hFold e [x, y, z] (hRow 2 (xn : Int)) o = hFold e [x, y, z] (hFrom 0 ([x, y, z].take (2 + 1))) hNever) := ⟨by rw [← HXN.out]; exact HTK.out⟩
            clear HTK
            have hix : (Instr.index 38 (.agg #[.int .i64 x, .int .i64 y, .int .i64 z]) (.int .i64 2)).run Try.prog wr = .ok (.int .i64 z) wr := by first | rfl | kernel_rfl
            go_wp2
            clear hix
            go_loopg [8, 11] xn (fun gg v8 v11 wr => ∃ (j : Nat) (o2 : Int), v11 = .int .i64 (1 + (j : Int)) ∧ v8 = .int .i64 o2 ∧ j ≤ xn ∧ xn - j ≤ gg ∧ Aside0 (o2 = hFold e [x, y, z] (hRow 2 (j : Int)) o) ∧ Aside0 (HMemo wr mb) ∧ Aside0 (KeptM W wr mb) ∧ Aside0 (wr.heap[b3]? = some (.cells #[.int .i64 x, .int .i64 y, .int .i64 z, .int .i64 e] 40 (0, 0))))
            case atStart => exact ⟨0, o, by simp, rfl, Nat.zero_le _, Nat.le_refl _, ⟨rfl⟩, HM, HKp, B3⟩
            case round =>
              clear HM HKp B3 hb0 hb1 hb2 hb3
              obtain ⟨j, o2, rfl, rfl, hj, hgg2, HO2, HM, HKp, B3⟩ := hrel
              by_cases hjn : j < xn
              · have hz2 : 1 + (j : Int) ≤ z := by have h9_ := HXN.out; omega
                have hyr := HWR.out (1 + (j : Int))
                have HN : Aside0 (min o2 (hW e [x, y, z] (2, 1 + (j : Int))) = hFold e [x, y, z] (hRow 2 ((j + 1 : Nat) : Int)) o) := ⟨by
                  rw [hRow_succ, hFold_append, ← HO2.out]; rfl⟩
                have HWI : Aside0 (∀ (W1 : World), HMemo W1 mb → Calls Try.prog 35 #[.map (some mb), .agg #[.int .i64 x, .int .i64 y, .int .i64 z, .int .i64 e], .int .i64 2, .int .i64 (1 + (j : Int))] W1 fun e' w' => e' = .returned (.int .i64 (hW e [x, y, z] (2, 1 + (j : Int)))) ∧ HMemo w' mb ∧ KeptM W1 w' mb) := ⟨fun W1 a1 => HDR.out j W1 (by have h9_ := HXN.out; omega) a1⟩
                generalize hW e [x, y, z] (2, 1 + (j : Int)) = u at hyr HN HWI
                have hmn : (if u < o2 then u else o2) = min o2 u := by split <;> omega
                generalize min o2 u = o3 at HN hmn
                have hw1 : IntKind.i64.wrap (1 + (j : Int) + 1) = 1 + (j : Int) + 1 := by clear hmn; rw [i64_w]; unfold wrap64; omega
                clear HO2
                have hb0 : wr.cell? ⟨b3, 0, none⟩ = some (.int .i64 x) := (blk_cell B3.out 0).trans rfl
                have hb1 : wr.cell? ⟨b3, 1, none⟩ = some (.int .i64 y) := (blk_cell B3.out 1).trans rfl
                have hb2 : wr.cell? ⟨b3, 2, none⟩ = some (.int .i64 z) := (blk_cell B3.out 2).trans rfl
                have hb3 : wr.cell? ⟨b3, 3, none⟩ = some (.int .i64 e) := (blk_cell B3.out 3).trans rfl
                go_wp2_with (go_at_call 35; with_reducible refine (HWI.out _ HM.out).mono ?_; rintro e_ w4 ⟨rfl, hM, hk⟩; have n2_ := Aside0.mk (HKp.out.then_ hk); have n3_ := Aside0.mk (blk_kept B3.out hk.one Nb3.out); clear HM HKp B3 hb0 hb1 hb2 hb3; have HM := Aside0.mk hM; have HKp := n2_; have B3 := n3_; clear n2_ n3_ hM hk)
                go_roundg (xn - (j + 1))
                case measure => omega
                case rel => exact ⟨j + 1, o3, by rw [show 1 + ((j + 1 : Nat) : Int) = 1 + (j : Int) + 1 by clear hw1 hmn; omega], rfl, by clear hw1 hmn; omega, by clear hw1 hmn; omega, HN, HM, HKp, B3⟩
              · have hz2 : ¬ 1 + (j : Int) ≤ z := by have h9_ := HXN.out; omega
                obtain rfl : j = xn := by omega
                have HN : Aside0 (o2 = hFold e [x, y, z] (hFrom 0 ([x, y, z].take (2 + 1))) hNever) := ⟨by rw [HO2.out, HTK2.out]⟩
                clear HO2 HTK2 HDR HWR
                go_wp2
                go_roundg (3 - (2 + 1))
                case measure => omega
                case rel => exact ⟨2 + 1, o2, by go_num, rfl, by omega, by omega, HN, HM, HKp, B3⟩

          · have hres : o = hVal e [x, y, z] := by rw [HV.out, HO.out]; rfl
            obtain ⟨w9, hup, hm9, hg9⟩ := HMemo.update HM.out e [x, y, z] HOK.out h0 h6
            have hup2 : (Instr.mapUpdate 36 (.map (some mb)) (.agg #[.int .i64 x, .int .i64 y, .int .i64 z, .int .i64 e]) (.int .i64 o)).run Try.prog wr = .ok () w9 := by rw [hres]; exact hup
            have HRES := Aside0.mk hres
            have HM9 := Aside0.mk hm9
            have HK9 := Aside0.mk (KeptM.of_grown hg9 HKp.out)
            clear hres hup hm9 hg9 HO HV HM HKp
            go_wp2
            go_ret
            exact ⟨by rw [HRES.out]; rfl, HM9.out, HK9.out⟩
theorem HLeastC_all : ∀ m, HLeastC m
  | 0 => fun _ _ _ _ _ _ _ _ _ h => absurd h (Nat.not_lt_zero _)
  | m + 1 => hleast_step m (HLeastC_all m)

end Go.Proofs.Ytoldjcmokcgaiaa.PrintA
