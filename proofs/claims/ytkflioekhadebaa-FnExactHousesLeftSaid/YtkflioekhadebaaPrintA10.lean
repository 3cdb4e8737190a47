-- written by this session's own driver (wip/gen.py) with the kit's print and contracts of our own
import Derived.Test.YtkflioekhadebaaPrintA0
import Derived.Test.YtkflioekhadebaaPrintA1
namespace Go.Proofs.Ytkflioekhadebaa.PrintA
open Go.RowKit Go.Proofs.YtkflioekhadebaaLib Go.Proofs.YtkflioekhadebaaW.PrintWords Go.Proofs.YtkflioekhadebaaW.PrintLast Go.Proofs.YtkflioekhadebaaW.PrintMore
attribute [local go_sem] max2_int min2_int max_two min_two max_three min_three max_four min_four   -- for this text's walks alone
set_option linter.unusedVariables false
set_option linter.unusedSimpArgs false

/-! ### laws_markIntS: function 24 -/
def laws_markIntS.l0 : Nat → List Int → Int → Int → Option (Int × List Int)
  | 0, _, _, _ => none
  | k + 1, x0, x1, x5 => if x5 < (x0.length : Int) then (if 0 ≤ x5 then (laws_markIntS.l0 k (x0.set (x5 : Int).toNat x1) (wrap64 (x1 + 1)) (wrap64 (x5 + 1))) else (none)) else (some (x1, x0))
def laws_markIntS.f (k : Nat) (l0 : List Int) (a1 : Int) : Option (Int × List Int) := laws_markIntS.l0 k l0 a1 0
theorem laws_markIntS.mono_l : ∀ k, (∀ y0 y1 y2, LeO (laws_markIntS.l0 k y0 y1 y2) (laws_markIntS.l0 (k + 1) y0 y1 y2))
  | 0 => fun _ _ _ r h => by simp [laws_markIntS.l0] at h
  | k + 1 => by
    have ih0 := laws_markIntS.mono_l k
    · intro y0 y1 y2
      unfold laws_markIntS.l0
      repeat' first
      | (with_reducible exact ih0 _ _ _)
      | (with_reducible exact LeO.refl _)
      | (with_reducible exact LeO.none _)
      | (with_reducible refine LeO.ite ?_ ?_)
      | (with_reducible refine LeO.bind ?_ (fun _ => ?_))
      | exact ih0 _ _ _
      | exact LeO.none _
      | refine LeO.ite ?_ ?_
      | refine LeO.bind ?_ (fun _ => ?_)
theorem laws_markIntS.mono : ∀ a0 a1 k, LeO (laws_markIntS.f k a0 a1) (laws_markIntS.f (k + 1) a0 a1) := by
  intro a0 a1 k
  have ih0 := laws_markIntS.mono_l k
  unfold laws_markIntS.f
  repeat' first
      | (with_reducible exact ih0 _ _ _)
      | (with_reducible exact LeO.refl _)
      | (with_reducible exact LeO.none _)
      | (with_reducible refine LeO.ite ?_ ?_)
      | (with_reducible refine LeO.bind ?_ (fun _ => ?_))
      | exact ih0 _ _ _
      | exact LeO.none _
      | refine LeO.ite ?_ ?_
      | refine LeO.bind ?_ (fun _ => ?_)
set_option maxHeartbeats 8000000 in
set_option maxRecDepth 100000 in
theorem laws_markIntS.calls (k : Nat) (P0_ : Nat → Prop) (u9000_ : Value) (l0 : List Int) (a1 : Int) (r1 : Int) (r2 : List Int) (w0 w : World) (hB : Below w0.heap.size w0 w) (ho0 : Kd.R (Kd.int .i64) 3 w w0.heap.size P0_ u9000_ l0) (h : laws_markIntS.f k l0 a1 = some (r1, r2)) :
    Calls Try.prog 24 #[u9000_, .int .i64 a1] w fun e w' => e = .returned (.int .i64 r1) ∧ Kd.R (Kd.int .i64) 3 w' w0.heap.size (fun k_ => (P0_ k_ ∨ w.heap.size ≤ k_)) u9000_ r2 ∧ Below w0.heap.size w0 w' ∧ Kept w w' (fun k_ => P0_ k_) := by
  have HO0 := Aside0.mk (show Kd.R (Kd.int .i64) 3 w w0.heap.size (fun k_ => (P0_ k_ ∨ w.heap.size ≤ k_)) u9000_ l0 from Kd.R_mono ho0 (fun k_ hk => (.inl hk)))
  have HK := Aside0.mk (Kept.refl w (fun k_ => P0_ k_))
  have HW0 := Aside0.mk hB.size
  have HB := Aside0.mk hB
  clear hB
  have H : (laws_markIntS.l0 k l0 a1 0) = some (r1, r2) := h
  clear h
  have H' := Aside0.mk H
  clear H
  go_enter Try.func24, Try.ntmps24
  go_wp2
  go_loopg [1, 5] k (fun kq v1 v5 w' => ∃ (x0_1 : List Int) (x1_1 : Int) (x5_1 : Int), v1 = .int .i64 x1_1 ∧ v5 = .int .i64 x5_1 ∧ Aside0 (laws_markIntS.l0 kq x0_1 x1_1 x5_1 = some (r1, r2)) ∧ Aside0 (kq ≤ k) ∧ Aside0 (Kd.R (Kd.int .i64) 3 w' w0.heap.size (fun k_ => (P0_ k_ ∨ w.heap.size ≤ k_)) u9000_ x0_1) ∧ Aside0 (Kept w w' (fun k_ => P0_ k_)) ∧ Aside0 (Below w0.heap.size w0 w'))
  case atStart => exact ⟨(l0), (a1), (0), (by first | rfl | (simp; done) | (simp [*]; done)), (by first | rfl | (simp; done) | (simp [*]; done)), H', ⟨Nat.le_refl _⟩, ⟨by (with_reducible repeat (first | apply Kd.R_alloc | apply Kd.R_drewN | apply Kd.R_drew)); exact HO0.out⟩, ⟨by repeat (first | (with_reducible first | exact HK.out | apply Kept.alloc | apply Kept.drewN | apply Kept.drew) | exact HK.out)⟩, ⟨by repeat (first | (with_reducible first | exact HB.out | apply below_alloc | apply pw_below_drewN | apply below_drew1) | exact HB.out)⟩⟩
  case round =>
    clear H'
    try clear c2
    try clear p2
    obtain ⟨x0_1, x1_1, x5_1, rfl, rfl, HA, HK1, HO_0, HK, HB⟩ := hrel
    cases gk with
    | zero => exact absurd HA.out (by simp [laws_markIntS.l0])
    | succ k1 =>
      have H := HA.out
      clear HA
      simp only [laws_markIntS.l0] at H
      by_cases c3 : x5_1 < (x0_1.length : Int)
      · rw [if_pos c3] at H
        have c3b0 : decide (x5_1 < (x0_1.length : Int)) = true := decide_eq_true c3
        clear c3
        by_cases c4 : 0 ≤ x5_1
        · rw [if_pos c4] at H
          have c4b0 : decide (0 ≤ x5_1) = true := decide_eq_true c4
          clear c4
          obtain ⟨y174, hy174⟩ : ∃ y_ : List Int, y_ = (x0_1.set (x5_1 : Int).toNat x1_1) := ⟨_, rfl⟩
          replace H : (laws_markIntS.l0 k1 y174 (wrap64 (x1_1 + 1)) (wrap64 (x5_1 + 1))) = some (r1, r2) := by first | (rw [hy174]; with_reducible exact H) | (have H2_ := (Option.bind_some _ _).symm.trans H; rw [hy174]; with_reducible exact H2_) | (have H2_ := (Option.bind_some _ _).symm.trans H; with_reducible exact H2_) | with_reducible exact H | (rw [hy174]; exact H) | exact H
          have Ny174 := Aside0.mk hy174
          clear hy174
          have H' := Aside0.mk H
          clear H
          obtain ⟨Ao6, co6, eo6⟩ := Kd.R_slice HO_0.out
          subst eo6
          have p5 : 0 ≤ (x5_1 : Int) := of_decide_eq_true (by first | (with_reducible assumption) | assumption)
          have q5 : (x5_1 : Int) < ((x0_1.length : Int) : Int) := of_decide_eq_true (by first | (with_reducible assumption) | assumption)
          obtain ⟨go5, co5, eo5, gb5, gl5, cl5, HG5⟩ := Kd.R_form HO_0.out (by omega)
          (first | cases eo5 | (injection eo5 with ea_ en_ ec_; (first | subst ea_ | (injection ea_ with ea_; subst ea_)); subst ec_; clear en_))
          have GB5 := Aside0.mk gb5
          have GG5 := Aside0.mk HG5
          clear gb5 gl5 HG5
          have HMgo5 := Aside0.mk (show (P0_ go5 ∨ w.heap.size ≤ go5) from (HO_0.out.1 _ rfl))
          obtain ⟨hx5_0, hf5_0⟩ := Kd.R_celln 0 HO_0.out (x5_1 : Int) p5 q5
          replace p5 := eq_true p5
          replace q5 := eq_true q5
          have HP7 := Kd.R_putg HO_0.out (x5_1 : Int) x1_1
          go_wp2_with (first | ((with_reducible refine gate_store (t := 3) (p := 15) rfl ?_); refine store_event (t := 3) (p := 15) (v := ?vo_w8) (w1 := (wr.setCell ⟨go5, (x5_1 : Int).toNat, none⟩ (.int .i64 x1_1))) ?hg ?ho ?hn ?hr ?_; (case ho => rfl); (case hg => rfl); (case hn => rfl); (case hr => first | (go_simp; done) | (go_simp; rfl)); intro w8 hw; have hg : wr.grownBy w8 (some go5) := (by rw [hw]; exact HP7.2); have hp_ : Kd.R (Kd.int .i64) 3 w8 w0.heap.size (fun k_ => (P0_ k_ ∨ w.heap.size ≤ k_)) (.slice (some ⟨go5, 0, none⟩) x0_1.length co6) y174 := (by rw [hw, Ny174.out]; exact HP7.1); clear HP7; have n0_ := Aside0.mk (hp_); have n1_ := Aside0.mk ((by rw [hw]; exact below_set (HB.out) GB5.out : Below w0.heap.size w0 w8)); have n2_ := Aside0.mk (Kept.of_grown (S := (fun k_ => P0_ k_)) hg (by repeat (first | (with_reducible first | exact HK.out | apply Kept.alloc | apply Kept.drewN | apply Kept.drew) | exact HK.out)) (fun k_ e_ => (HO_0.out.1 k_ e_))); clear HO_0; clear HB; clear HK; have HO_0 := n0_; have HB := n1_; have HK := n2_; clear n0_ n1_ n2_; clear hg hw hp_))
          go_roundg k1
          case measure => have := HK1.out; omega
          case rel => exact ⟨(y174), (wrap64 (x1_1 + 1)), (wrap64 (x5_1 + 1)), (by first | rfl | (simp; done) | (simp [*]; done)), (by first | rfl | (simp; done) | (simp [*]; done)), H', ⟨by have := HK1.out; omega⟩, ⟨by (with_reducible repeat (first | apply Kd.R_alloc | apply Kd.R_drewN | apply Kd.R_drew)); exact HO_0.out⟩, ⟨by repeat (first | (with_reducible first | exact HK.out | apply Kept.alloc | apply Kept.drewN | apply Kept.drew) | exact HK.out)⟩, ⟨by repeat (first | (with_reducible first | exact HB.out | apply below_alloc | apply pw_below_drewN | apply below_drew1) | exact HB.out)⟩⟩
        · rw [if_neg c4] at H
          exact absurd H (by simp)
      · rw [if_neg c3] at H
        have c3b0 : decide (x5_1 < (x0_1.length : Int)) = false := decide_eq_false c3
        clear c3
        simp only [Option.some.injEq, Prod.mk.injEq] at H
        obtain ⟨rfl, rfl⟩ := H
        obtain ⟨Ao9, co9, eo9⟩ := Kd.R_slice HO_0.out
        subst eo9
        go_wp2
        go_ret
        exact ⟨by first | rfl | (simp [errW_none, errW_some] <;> rfl) | (simp [*, errW_none, errW_some] <;> rfl), by (with_reducible repeat (first | apply Kd.R_alloc | apply Kd.R_drewN | apply Kd.R_drew)); exact HO_0.out, by repeat (first | (with_reducible first | exact HB.out | apply below_alloc | apply pw_below_drewN | apply below_drew1) | exact HB.out), by repeat (first | (with_reducible first | exact HK.out | apply Kept.alloc | apply Kept.drewN | apply Kept.drew) | exact HK.out)⟩

/-! behind laws_markIntS -/
def upL (n : Nat) (k : Int) : List Int := (List.range n).map (fun (i : Nat) => k + (i : Int))
theorem upL_length (n : Nat) (k : Int) : (upL n k).length = n := by simp [upL]
theorem markIntS_l0 (l : List Int) (k0 : Int) (hk0 : 0 ≤ k0) (hk1 : k0 ≤ 1000000000) (hl : l.length ≤ 1000000) : ∀ (d k : Nat) (i : Nat), i ≤ l.length → l.length - i = d → d < k →
    laws_markIntS.l0 k (upL i k0 ++ l.drop i) (k0 + i) (i : Int) = some (k0 + l.length, upL l.length k0) := by
  intro d
  induction d with
  | zero =>
    intro k i h1 hd hk
    obtain ⟨k, rfl⟩ : ∃ m, k = m + 1 := ⟨k - 1, by omega⟩
    obtain rfl : i = l.length := by omega
    simp only [laws_markIntS.l0]
    rw [if_neg (by simp [upL_length])]
    simp
  | succ d ih =>
    intro k i h1 hd hk
    obtain ⟨k, rfl⟩ : ∃ m, k = m + 1 := ⟨k - 1, by omega⟩
    have hlt : i < l.length := by omega
    simp only [laws_markIntS.l0]
    rw [if_pos (by simp [upL_length]; omega), if_pos (by omega)]
    have e1 : wrap64 (k0 + i + 1) = k0 + ((i + 1 : Nat) : Int) := by unfold wrap64; omega
    have e2 : wrap64 ((i : Int) + 1) = ((i + 1 : Nat) : Int) := by unfold wrap64; omega
    have e3 : (upL i k0 ++ l.drop i).set ((i : Int)).toNat (k0 + i) = upL (i + 1) k0 ++ l.drop (i + 1) := by
      rw [Int.toNat_natCast, List.drop_eq_getElem_cons hlt, List.set_append_right _ _ (by rw [upL_length]; omega), upL_length, Nat.sub_self, List.set_cons_zero]
      simp [upL, List.range_succ]
    rw [e1, e2, e3]
    exact ih k (i + 1) (by omega) (by omega) (by omega)
theorem markIntS_own (ok : Nat → Prop) (A : Option Addr) (n c : Nat) (l : List Int) (k0 : Int) (w0 w : World) (hB : Below w0.heap.size w0 w) (hn : l.length = n) (hR : Kd.R (Kd.int .i64) 3 w w0.heap.size ok (.slice A n c) l) (hl : n ≤ 1000000) (hk0 : 0 ≤ k0) (hk1 : k0 ≤ 1000000000) :
    Calls Try.prog 24 #[.slice A n c, .int .i64 k0] w fun e w' => e = .returned (.int .i64 (k0 + n)) ∧ Kd.R (Kd.int .i64) 3 w' w0.heap.size ok (.slice A n c) (upL n k0) ∧ Below w0.heap.size w0 w' ∧ Kept w w' ok := by
  subst hn
  refine (laws_markIntS.calls (l.length + 1) ok (.slice A l.length c) l k0 (k0 + l.length) (upL l.length k0) w0 w hB hR ?_).mono ?_
  · unfold laws_markIntS.f
    have h := markIntS_l0 l k0 hk0 hk1 hl l.length (l.length + 1) 0 (by omega) (by omega) (by omega)
    simpa [upL] using h
  · rintro e w' ⟨rfl, hr, hb, hk⟩
    exact ⟨rfl, r_int_ok hr hR.1, hb, hk⟩

/-! ### laws_markIntSS: function 26, a contract of our own -/
theorem s_btw {α : Type} {d : Kd α} {e : Nat} {w1 : World} {base b0 : Nat} {ok : Nat → Prop} {v : Value} {xs : List α} (h : Kd.S d e w1 base ok v xs) (hb : b0 ≤ base) : Kd.S d e w1 b0 (Btw base w1.heap.size) v xs :=
  Kd.S_lower (Kd.S_mono (Kd.S_bound h) (fun k hk => ⟨hk.2.1, hk.2.2.1⟩)) hb
theorem s_keep {α : Type} {d : Kd α} {e : Nat} {w w1 : World} {base : Nat} {ok S : Nat → Prop} {v : Value} {xs : List α} (h : Kd.S d e w base ok v xs) (hk : Kept w w1 S) (hne : ∀ k, ok k → S k → False) : Kd.S d e w1 base ok v xs :=
  Kd.S_step h (fun k ho hlt => hk.2 k hlt (fun hs => hne k ho hs))
/-- The marks of rows. -/
def upSS : List (List Int) → Int → List (List Int)
  | [], _ => []
  | r :: s, k => upL r.length k :: upSS s (k + r.length)
theorem upSS_len : ∀ (l : List (List Int)) (k : Int), (upSS l k).length = l.length
  | [], _ => rfl
  | r :: s, k => by rw [upSS, List.length_cons, upSS_len s, List.length_cons]
theorem upSS_append : ∀ (x y : List (List Int)) (k : Int), upSS (x ++ y) k = upSS x k ++ upSS y (k + x.flatten.length)
  | [], y, k => by simp [upSS]
  | r :: s, y, k => by
    rw [List.cons_append, upSS, upSS, upSS_append s y, List.flatten_cons, List.length_append]
    rw [show k + ((r.length + s.flatten.length : Nat) : Int) = k + (r.length : Int) + (s.flatten.length : Int) by omega]
    rfl
theorem take_more (l : List (List Int)) (i : Nat) (hi : i < l.length) : l.take (i + 1) = l.take i ++ [l.getD i []] := by
  rw [List.take_succ_eq_append_getElem hi]
  simp [List.getD_eq_getElem?_getD, hi]
theorem flat_more (l : List (List Int)) (i : Nat) (hi : i < l.length) : (l.take (i + 1)).flatten.length = (l.take i).flatten.length + (l.getD i []).length := by
  rw [take_more l i hi, List.flatten_append, List.length_append]
  simp
theorem flat_part (l : List (List Int)) (i : Nat) : (l.take i).flatten.length ≤ l.flatten.length := by
  have h := congrArg List.length (congrArg List.flatten (List.take_append_drop i l))
  rw [List.flatten_append, List.length_append] at h
  omega
/-- So many rows are marked. -/
def partSS (l : List (List Int)) (k : Int) (i : Nat) : List (List Int) := upSS (l.take i) k ++ l.drop i
theorem partSS_len (l : List (List Int)) (k : Int) (i : Nat) : (partSS l k i).length = l.length := by
  rw [partSS, List.length_append, upSS_len, List.length_take, List.length_drop]; omega
theorem partSS_get (l : List (List Int)) (k : Int) (i : Nat) (hi : i < l.length) : (partSS l k i).getD i [] = l.getD i [] := by
  have h1 : (upSS (l.take i) k).length = i := by rw [upSS_len, List.length_take]; omega
  rw [partSS, List.getD_eq_getElem?_getD, List.getElem?_append_right (by omega), h1, Nat.sub_self, List.getElem?_drop, Nat.add_zero, ← List.getD_eq_getElem?_getD]
theorem partSS_set (l : List (List Int)) (k : Int) (i : Nat) (hi : i < l.length) : (partSS l k i).set i (upL (l.getD i []).length (k + (l.take i).flatten.length)) = partSS l k (i + 1) := by
  have h1 : (upSS (l.take i) k).length = i := by rw [upSS_len, List.length_take]; omega
  rw [partSS, partSS, List.set_append_right _ _ (by omega), h1, Nat.sub_self, take_more l i hi, upSS_append, List.drop_eq_getElem_cons hi, List.set_cons_zero, List.append_assoc]
  rfl
theorem slice_own (g n c : Nat) : (Value.slice (some ⟨g, 0, none⟩) n c).ownBlock = some g := by simp [Value.ownBlock]
set_option maxHeartbeats 8000000 in
set_option maxRecDepth 100000 in
theorem markIntSS_own (ok : Nat → Prop) (A : Option Addr) (n c : Nat) (l : List (List Int)) (k0 : Int) (w0 w : World) (hB : Below w0.heap.size w0 w) (hn : l.length = n) (hR : Kd.S (Kd.slice 3 (Kd.int .i64)) 22 w w0.heap.size ok (.slice A n c) l) (hl : l.length + l.flatten.length ≤ 1000000) (hk0 : 0 ≤ k0) (hk1 : k0 ≤ 1000000) :
    Calls Try.prog 26 #[.slice A n c, .int .i64 k0] w fun e w' => e = .returned (.int .i64 (k0 + l.flatten.length)) ∧ Kd.S (Kd.slice 3 (Kd.int .i64)) 22 w' w0.heap.size ok (.slice A n c) (upSS l k0) ∧ Below w0.heap.size w0 w' ∧ Kept w w' ok := by
  have HN := Aside0.mk hn
  have HB := Aside0.mk hB
  have HS : Aside0 (Kd.S (Kd.slice 3 (Kd.int .i64)) 22 w w0.heap.size ok (.slice A n c) (partSS l k0 0)) := ⟨hR⟩
  have HFL := Aside0.mk (fun i => Nat.le_trans (flat_part l i) (show l.flatten.length ≤ 1000000 by omega))
  have HFM := Aside0.mk (flat_more l)
  have HPG := Aside0.mk (partSS_get l k0)
  have HPS := Aside0.mk (partSS_set l k0)
  have hnl : n ≤ 1000000 := by omega
  have HEND : Aside0 (partSS l k0 n = upSS l k0 ∧ (l.take n).flatten = l.flatten) := ⟨by
    subst hn
    refine ⟨?_, by rw [List.take_length]⟩
    rw [partSS, List.take_length, List.drop_length, List.append_nil]⟩
  have HFO : Aside0 (∀ W xs, Kd.S (Kd.slice 3 (Kd.int .i64)) 22 W w0.heap.size ok (.slice A n c) xs → xs.length = n → 0 < n → ∃ g, A = some ⟨g, 0, none⟩) := ⟨fun W xs h h1 h2 => by
    obtain ⟨g, cap, hv, _⟩ := Kd.S_form h (by omega)
    obtain ⟨rfl, _, _⟩ := Value.slice.inj hv
    exact ⟨g, rfl⟩⟩
  have HPL : Aside0 (∀ i, (partSS l k0 i).length = n) := ⟨fun i => by rw [partSS_len, hn]⟩
  clear hR hB hl hn
  go_enter Try.func26, Try.ntmps26
  go_wp2
  go_loopg [1, 5] n (fun gg v1 v5 wr => ∃ (i : Nat) (q : Int), v5 = .int .i64 i ∧ v1 = .int .i64 q ∧ i ≤ n ∧ n - i ≤ gg ∧ Aside0 (q = k0 + (l.take i).flatten.length) ∧ Aside0 (Kd.S (Kd.slice 3 (Kd.int .i64)) 22 wr w0.heap.size ok (.slice A n c) (partSS l k0 i)) ∧ Aside0 (Below w0.heap.size w0 wr) ∧ Aside0 (Kept w wr ok))
  case atStart => exact ⟨0, k0, rfl, rfl, Nat.zero_le _, Nat.le_refl _, ⟨by simp⟩, HS, HB, ⟨Kept.refl _ _⟩⟩
  case round =>
    clear HS HB
    obtain ⟨i, q, rfl, rfl, hi, hgg, HQ, HS, HB, HK⟩ := hrel
    by_cases hlt : i < n
    · have hltz : (i : Int) < (n : Int) := by omega
      obtain ⟨g, rfl⟩ := HFO.out _ _ HS.out (HPL.out i) (by omega)
      obtain ⟨oki, cl, hc1, hM, hcell, hoki, hH⟩ := Kd.S_lend HS.out [] (i : Int) (by omega) (by omega)
      rw [Int.toNat_natCast] at hM hcell
      rw [HPG.out i (by rw [HN.out]; exact hlt)] at hM
      have hfm := HFM.out i (by rw [HN.out]; exact hlt)
      have hfl := HFL.out (i + 1)
      have hps := HPS.out i (by rw [HN.out]; exact hlt)
      rw [← HQ.out] at hps
      obtain ⟨v, rfl, hr⟩ := (hM : ∃ v, cl = [v] ∧ Kd.R (Kd.int .i64) 3 wr w0.heap.size oki v (l.getD i []))
      have h0 := hcell 0 _ rfl
      have e1 : i * (Kd.slice 3 (Kd.int .i64)).sz + 0 = i := by show i * 1 + 0 = i; omega
      rw [e1] at h0
      obtain ⟨A2, c2, rfl⟩ := Kd.R_slice hr
      have hq := HQ.out
      have hx : wr.cell? ⟨g, i, none⟩ = some (.slice A2 (l.getD i []).length c2) := h0
      generalize l.getD i [] = r at hr hfm hps hx hH
      have HM := Aside0.mk (markIntS_own oki A2 r.length c2 r q w0 wr HB.out rfl hr (by omega) (by omega) (by omega))
      have HH := Aside0.mk hH
      have HQ2 : Aside0 (q + (r.length : Int) = k0 + (l.take (i + 1)).flatten.length) := ⟨by omega⟩
      have HOK := Aside0.mk hoki
      have HPS2 := Aside0.mk hps
      clear hcell hr h0 e1 hc1 hH hoki hps hfm hfl hq HQ HS HFL HFM HPG HPS HFO
      generalize r.length = m at HM HQ2 hx HPS2 HH
      go_wp2_with (go_at_call 24; refine (HM.out).mono ?_; rintro e_ w2 ⟨rfl, hr, hb, hk⟩; have HB2 := Aside0.mk hb; have HS2 := Aside0.mk (Kd.H_back (Kd.H_step HH.out (fun k_ h1_ h2_ hlt_ => hk.2 k_ hlt_ h2_)) (okp := oki) (Exists.intro (Value.slice A2 m c2) ⟨rfl, hr⟩ : ∃ v_, [Value.slice A2 m c2] = [v_] ∧ Kd.R (Kd.int .i64) 3 w2 w0.heap.size oki v_ (upL m q)) (fun _ h_ => h_)); have HK2 : Aside0 (Kept w w2 ok) := ⟨⟨Nat.le_trans HK.out.1 hk.1, fun k_ hk_ hno_ => (hk.2 k_ (Nat.lt_of_lt_of_le hk_ HK.out.1) (fun h_ => hno_ (HOK.out k_ h_).1)).trans (HK.out.2 k_ hk_ hno_)⟩⟩; clear hr hb hk HB HK HM HH)
      go_roundg (n - (i + 1))
      case measure => omega
      case rel => exact ⟨i + 1, q + (m : Int), by go_num, by go_num, by omega, by omega, HQ2, ⟨by have := HS2.out; rw [Int.toNat_natCast, HPS2.out] at this; exact this⟩, HB2, HK2⟩
    · have hltz : ¬ (i : Int) < (n : Int) := by omega
      obtain rfl : i = n := by omega
      have hq : q = k0 + l.flatten.length := by rw [HQ.out, HEND.out.2]
      subst hq
      clear HFL HFM HPG HPS HFO HPL
      go_wp2
      go_ret
      exact ⟨rfl, by have := HS.out; rw [HEND.out.1] at this; exact this, HB.out, HK.out⟩

end Go.Proofs.Ytkflioekhadebaa.PrintA
