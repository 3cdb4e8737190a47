-- written by this session's own driver (wip/gen.py) with the kit's print and contracts of our own
import Derived.Test.YtiahedkmlacpkaaPrintS0
import Derived.Test.YtiahedkmlacpkaaPrintS1
import Derived.Test.YtiahedkmlacpkaaPrintS12
import Derived.Test.YtiahedkmlacpkaaPrintS14
import Derived.Test.YtiahedkmlacpkaaPrintS15
import Derived.Test.YtiahedkmlacpkaaPrintS17
namespace Go.Proofs.Ytiahedkmlacpkaa.PrintS
open Go.RowKit Go.Proofs.YtiahedkmlacpkaaLib Go.Proofs.YtiahedkmlacpkaaW.PrintWords Go.Proofs.YtiahedkmlacpkaaW.PrintLast Go.Proofs.YtiahedkmlacpkaaW.PrintMore
attribute [local go_sem] max2_int min2_int max_two min_two max_three min_three max_four min_four   -- for this text's walks alone
set_option linter.unusedVariables false
set_option linter.unusedSimpArgs false

/-! ### impl_sumOf: function 86 -/
def impl_sumOf.l0 : Nat → Int → List Int → Int → Int → Option (Int)
  | 0, _, _, _, _ => none
  | k + 1, x3, x6, x7, x8 => if x8 < x7 then (if 0 ≤ x8 then (if x8 < (x6.length : Int) then (impl_sumOf.l0 k (wrap64 (x3 + (rd x6 x8))) x6 x7 (wrap64 (x8 + 1))) else (none)) else (none)) else (some x3)
def impl_sumOf.f (k : Nat) (l0 : List Int) : Option (Int) := impl_sumOf.l0 k 0 l0 (l0.length : Int) 0
theorem impl_sumOf.mono_l : ∀ k, (∀ y0 y1 y2 y3, LeO (impl_sumOf.l0 k y0 y1 y2 y3) (impl_sumOf.l0 (k + 1) y0 y1 y2 y3))
  | 0 => fun _ _ _ _ r h => by simp [impl_sumOf.l0] at h
  | k + 1 => by
    have ih0 := impl_sumOf.mono_l k
    · intro y0 y1 y2 y3
      unfold impl_sumOf.l0
      repeat' first
      | (with_reducible exact ih0 _ _ _ _)
      | (with_reducible exact LeO.refl _)
      | (with_reducible exact LeO.none _)
      | (with_reducible refine LeO.ite ?_ ?_)
      | (with_reducible refine LeO.bind ?_ (fun _ => ?_))
      | exact ih0 _ _ _ _
      | exact LeO.none _
      | refine LeO.ite ?_ ?_
      | refine LeO.bind ?_ (fun _ => ?_)
theorem impl_sumOf.mono : ∀ a0 k, LeO (impl_sumOf.f k a0) (impl_sumOf.f (k + 1) a0) := by
  intro a0 k
  have ih0 := impl_sumOf.mono_l k
  unfold impl_sumOf.f
  repeat' first
      | (with_reducible exact ih0 _ _ _ _)
      | (with_reducible exact LeO.refl _)
      | (with_reducible exact LeO.none _)
      | (with_reducible refine LeO.ite ?_ ?_)
      | (with_reducible refine LeO.bind ?_ (fun _ => ?_))
      | exact ih0 _ _ _ _
      | exact LeO.none _
      | refine LeO.ite ?_ ?_
      | refine LeO.bind ?_ (fun _ => ?_)
set_option maxHeartbeats 8000000 in
set_option maxRecDepth 100000 in
theorem impl_sumOf.calls (k : Nat) (A0 : Option Addr) (c0 : Nat) (l0 : List Int) (r : Int) (w : World) (hr0 : Kd.C (Kd.int .i64) w A0 l0.length l0) (hc0 : l0.length ≤ c0) (h : impl_sumOf.f k l0 = some r) :
    Calls Try.prog 86 #[.slice A0 l0.length c0] w fun e w' => e = .returned (.int .i64 r) ∧ Drawn0 w w' := by
  have HR0 := Aside0.mk hr0
  have HC0 := Aside0.mk hc0
  clear hr0 hc0
  have H : (impl_sumOf.l0 k 0 l0 (l0.length : Int) 0) = some r := h
  clear h
  have H' := Aside0.mk H
  clear H
  go_enter Try.func86, Try.ntmps86
  go_wp2
  go_loopg [3, 8] k (fun kq v3 v8 w' => ∃ (x3_1 : Int) (x8_1 : Int), v3 = .int .i64 x3_1 ∧ v8 = .int .i64 x8_1 ∧ Aside0 (impl_sumOf.l0 kq x3_1 l0 (l0.length : Int) x8_1 = some r) ∧ Aside0 (kq ≤ k) ∧ Drawn0 w w')
  case atStart => exact ⟨(0), (0), (by first | rfl | (simp; done) | (simp [*]; done)), (by first | rfl | (simp; done) | (simp [*]; done)), H', ⟨Nat.le_refl _⟩, by repeat (first | exact Drawn0.refl _ | apply Drawn0.step)⟩
  case round =>
    clear H'
    obtain ⟨x3_1, x8_1, rfl, rfl, HA, HK1, ⟨m1, rfl⟩⟩ := hrel
    cases gk with
    | zero => exact absurd HA.out (by simp [impl_sumOf.l0])
    | succ k1 =>
      have H := HA.out
      clear HA
      simp only [impl_sumOf.l0] at H
      by_cases c2 : x8_1 < (l0.length : Int)
      · rw [if_pos c2] at H
        have c2b0 : decide (x8_1 < (l0.length : Int)) = true := decide_eq_true c2
        clear c2
        by_cases c3 : 0 ≤ x8_1
        · rw [if_pos c3] at H
          have c3b0 : decide (0 ≤ x8_1) = true := decide_eq_true c3
          clear c3
          by_cases c4 : x8_1 < (l0.length : Int)
          · rw [if_pos c4] at H
            have c4b0 : decide (x8_1 < (l0.length : Int)) = true := decide_eq_true c4
            clear c4
            have H' := Aside0.mk H
            clear H
            have p164 : 0 ≤ (x8_1 : Int) := of_decide_eq_true (by first | (with_reducible assumption) | assumption)
            have q164 : x8_1 < (l0.length : Int) := of_decide_eq_true (by first | (with_reducible assumption) | assumption)
            obtain ⟨ad164, e164, hx164_0⟩ := Kd.at_int HR0.out x8_1 p164 q164
            cases e164
            replace p164 := eq_true p164
            replace q164 := eq_true q164
            go_wp2
            go_roundg k1
            case measure => have := HK1.out; omega
            case rel => exact ⟨(wrap64 (x3_1 + (rd l0 x8_1))), (wrap64 (x8_1 + 1)), (by first | rfl | (simp; done) | (simp [*]; done)), (by first | rfl | (simp; done) | (simp [*]; done)), H', ⟨by have := HK1.out; omega⟩, by repeat (first | exact Drawn0.refl _ | apply Drawn0.step)⟩
          · rw [if_neg c4] at H
            exact absurd H (by simp)
        · rw [if_neg c3] at H
          exact absurd H (by simp)
      · rw [if_neg c2] at H
        have c2b0 : decide (x8_1 < (l0.length : Int)) = false := decide_eq_false c2
        clear c2
        obtain rfl := Option.some.inj H
        go_wp2
        go_ret
        exact ⟨by first | rfl | (simp; done) | (simp [*]; done), by repeat (first | exact Drawn0.refl _ | apply Drawn0.step)⟩

/-! ### impl_bestShares: function 62, a contract of our own -/
-- LIB Shares
-- LIB Houses
theorem drawn_belowS {w w' : World} (h : Drawn0 w w') : Below w.heap.size w w' := by
  obtain ⟨q, rfl⟩ := h
  exact pw_below_drewN (Below.refl _ _) q
theorem srow_at {W : World} {b : Nat} {ok : Nat → Prop} {A : Option Addr} {R c : Nat} {all : List (List Int)} (hS : Kd.S (Kd.slice 3 (Kd.int .i64)) 30 W b ok (.slice A R c) all) (j : Nat) (hj : j < R) (n : Nat) (hn : (all.getD j []).length = n) :
    ∃ ad A1 cc, A = some ad ∧ W.cell? (ad.add j) = some (.slice A1 n cc) ∧ Kd.R (Kd.int .i64) 3 W b (fun _ => True) (.slice A1 n cc) (all.getD j []) := by
  have hR := Kd.S_R hS
  obtain ⟨h1, _, _⟩ := Kd.R_reads' hR
  obtain ⟨g, c', hv, hg0, hg1, _⟩ := Kd.R_form hR (by omega)
  injection hv with hA hn' hc
  subst hA
  obtain ⟨cl, hc1, hM, hcell, _⟩ := Kd.R_elem hR [] (j : Int) (by omega) (by omega)
  rw [Int.toNat_natCast] at hM hcell
  obtain ⟨v, rfl, hr⟩ := hM
  obtain ⟨A1, cc, hvv⟩ := Kd.R_slice hr
  rw [hn] at hvv
  subst hvv
  have hx := hcell 0 _ rfl
  refine ⟨⟨g, 0, none⟩, A1, cc, rfl, ?_, Kd.R_mono hr (fun _ _ => trivial)⟩
  have e1 : j * (Kd.slice 3 (Kd.int .i64)).sz + 0 = j := by
    show j * 1 + 0 = j
    omega
  rw [e1] at hx
  rw [add_plain]
  exact hx
theorem sumOf_go (l : List Int) (hk : ∀ x ∈ l, 0 ≤ x ∧ x ≤ 10) (hl : l.length ≤ 100) : ∀ (d k i : Nat) (s : Int), l.length - i = d → i ≤ l.length → d < k → 0 ≤ s → s ≤ 10 * i → impl_sumOf.l0 k s l (l.length : Int) (i : Int) = some (s + sSum (l.drop i))
  | 0, k, i, s, hd, hi, hk', h0, h9 => by
    obtain ⟨k, rfl⟩ : ∃ m, k = m + 1 := ⟨k - 1, by omega⟩
    rw [impl_sumOf.l0, if_neg (by omega), List.drop_of_length_le (by omega)]
    simp [sSum]
  | d + 1, k, i, s, hd, hi, hk', h0, h9 => by
    obtain ⟨k, rfl⟩ : ∃ m, k = m + 1 := ⟨k - 1, by omega⟩
    have hlt : i < l.length := by omega
    have hx := hk _ (List.getElem_mem hlt)
    have hrd : rd l (i : Int) = l[i] := by
      unfold rd
      rw [Int.toNat_natCast, List.getD_eq_getElem?_getD, List.getElem?_eq_getElem hlt]; rfl
    have e1 : wrap64 (s + l[i]) = s + l[i] := by unfold wrap64; omega
    have e2 : wrap64 ((i : Int) + 1) = ((i + 1 : Nat) : Int) := by clear e1; unfold wrap64; omega
    rw [impl_sumOf.l0, if_pos (by clear e1 e2; omega), if_pos (by clear e1 e2; omega), if_pos (by clear e1 e2; omega), hrd, e1, e2, sumOf_go l hk hl d k (i + 1) (s + l[i]) (by clear e1 e2; omega) (by clear e1 e2; omega) (by clear e1 e2; omega) (by clear e1 e2; omega) (by clear e1 e2; omega), List.drop_eq_getElem_cons hlt]
    show some (s + l[i] + sSum (l.drop (i + 1))) = some (s + (l[i] + sSum (l.drop (i + 1))))
    rw [Int.add_assoc]
theorem sumOf_is (l : List Int) (hk : ∀ x ∈ l, 0 ≤ x ∧ x ≤ 10) (hl : l.length ≤ 100) : impl_sumOf.f 200 l = some (sSum l) := by
  unfold impl_sumOf.f
  have := sumOf_go l hk hl l.length 200 0 0 (by omega) (by omega) (by omega) (Int.le_refl _) (by simp)
  simpa using this
/-- What the program finds: shares and their sum. -/
def sBest (e : Nat) (l : List Int) : List Int × Int := (sAll e l.length).foldl (sStep (fun c => shL l c 0) (e : Int)) ([], 1125899906842624)
set_option maxHeartbeats 8000000 in
set_option maxRecDepth 100000 in
theorem bestShares_calls (e : Nat) (he : e ≤ 6) (l : List Int) (n : Nat) (hn : l.length = n) (h1 : 1 ≤ n) (h3 : n ≤ 3) (A : Option Addr) (c : Nat) (w : World) (hC : Kd.C (Kd.int .i64) w A n l) :
    Calls Try.prog 62 #[.int .i64 e, .slice A n c] w fun e_ w' => ∃ v, e_ = .returned (.tuple #[v, .int .i64 (sBest e l).2]) ∧ Kd.R (Kd.int .i64) 3 w' w.heap.size (fun _ => True) v (sBest e l).1 ∧ Below w.heap.size w w' := by
  have HC := Aside0.mk hC
  have HB := Aside0.mk (Below.refl w.heap.size w)
  have HRP : Aside0 (∀ (A : Option Addr) (c : Nat) (W : World), Kd.C (Kd.int .i64) W A 1 [(e : Int)] → Calls Try.prog 85 #[.slice A 1 c, .int .i64 n] W fun e_ w' => ∃ g c', e_ = .returned (.slice (some ⟨g, 0, none⟩) n c') ∧ n ≤ c' ∧ Kd.C (Kd.int .i64) w' (some ⟨g, 0, none⟩) n (List.replicate n (e : Int)) ∧ Below W.heap.size W w') := ⟨fun A c W h => by
    rcases (by omega : n = 1 ∨ n = 2 ∨ n = 3) with rfl | rfl | rfl
    · exact repeat1 e A c W h
    · exact repeat2 e A c W h
    · exact repeat3 e A c W h⟩
  have HAL : Aside0 (∀ (g c : Nat) (W : World), Kd.C (Kd.int .i64) W (some ⟨g, 0, none⟩) n (List.replicate n (e : Int)) → Calls Try.prog 84 #[.slice (some ⟨g, 0, none⟩) n c] W fun e_ w' => ∃ v, e_ = .returned v ∧ Kd.S (Kd.slice 3 (Kd.int .i64)) 30 w' W.heap.size (fun _ => True) v (sAll e n) ∧ Below W.heap.size W w') := ⟨fun g c W h => allBreaks_calls e he n h3 _ c W h⟩
  have hmem : ∀ q ∈ sAll e n, q.length = n ∧ ∀ x ∈ q, 0 ≤ x ∧ x ≤ (e : Int) := fun q hq => by
    rw [sAll_eq] at hq
    exact (sx_mem e n q).1 hq
  obtain ⟨sh, hsh⟩ : ∃ sh : List Int → Int × Bool, sh = fun c => shL l c 0 := ⟨_, rfl⟩
  have hbest : sBest e l = (sAll e n).foldl (sStep sh (e : Int)) ([], 1125899906842624) := by unfold sBest; rw [hn, hsh]
  obtain ⟨F, hF⟩ : ∃ F, sBest e l = F := ⟨_, rfl⟩
  rw [hF] at hbest ⊢
  obtain ⟨all, hall⟩ : ∃ all, sAll e n = all := ⟨_, rfl⟩
  rw [hall] at hbest hmem HAL
  have HF := Aside0.mk hbest
  have HMEM := Aside0.mk hmem
  have HSH : Aside0 (∀ (g : Nat) (A1 : Option Addr) (c1 : Nat) (q : List Int) (W : World), IsReaches W g → Below w.heap.size w W → q.length = n → (∀ x ∈ q, 0 ≤ x ∧ x ≤ (e : Int)) → Kd.C (Kd.int .i64) W A1 n q → Calls Try.prog 58 #[.pointer (some ⟨g, 0, none⟩), .slice A n c, .slice A1 n c1] W fun e_ w' => e_ = .returned (.tuple #[.int .i64 (sh q).1, .bool (sh q).2]) ∧ W = w') := ⟨fun g A1 c1 q W hR hb hq hx hC1 => by
    have h := sharedTests_calls g A c l A1 c1 q W hR (by rw [hn]; exact Kd.C_below HC.out hb) (by rw [hq]; exact hC1) (by rw [hq, hn]) (by omega) (fun x hm => by have := hx x hm; omega)
    rw [hn, hq] at h
    rw [hsh]
    exact h⟩
  have HSU : Aside0 (∀ (A1 : Option Addr) (c1 : Nat) (q : List Int) (W : World), q.length = n → (∀ x ∈ q, 0 ≤ x ∧ x ≤ (e : Int)) → n ≤ c1 → Kd.C (Kd.int .i64) W A1 n q → Calls Try.prog 86 #[.slice A1 n c1] W fun e_ w' => e_ = .returned (.int .i64 (sSum q)) ∧ Below W.heap.size W w') := ⟨fun A1 c1 q W hq hx hc hC1 => by
    have h := impl_sumOf.calls 200 A1 c1 q _ W (by rw [hq]; exact hC1) (by rw [hq]; exact hc) (sumOf_is q (fun x hm => by have := hx x hm; omega) (by omega))
    rw [hq] at h
    refine h.mono ?_
    rintro e_ w_ ⟨rfl, hd⟩
    exact ⟨rfl, drawn_belowS hd⟩⟩
  obtain ⟨R, hRn⟩ : ∃ R, all.length = R := ⟨_, rfl⟩
  have HRN := Aside0.mk hRn
  have HRL : Aside0 (R ≤ 343) := ⟨by
    have h8 := sAll_len e he n
    have h9 : 7 ^ n ≤ 7 ^ 3 := Nat.pow_le_pow_right (by decide) h3
    rw [hall, hRn] at h8
    omega⟩
  clear hbest hmem hF hall hC hn hsh hRn
  go_enter Try.func62, Try.ntmps62
  go_wp2_with (first
    | ((with_reducible refine gate_dst (N := 13) rfl ?_); refine Kd.R_lit (Kd.int .i64) _ 3 ?hg (N := 13) ?hd (xs := ([] : List Int)) (inner := []) (ok := fun _ => True) (okp := fun _ => True) ?hr ?hp (fun _ hk => hk) trivial (Below.refl _ _) (Nat.le_refl _) (by simp) ?_; (case hd => rfl); (case hg => rfl); (case hr => first | (go_simp; done) | (go_simp; rfl)); (case hp => exact (Reps.none _ _)); intro v13 w2 ho hb hg_ hnew_; have HV := Aside0.mk (Kd.R_lower ho HB.out.size); have n0_ := Aside0.mk (below_step HB.out hb); clear HB hg_ hnew_ ho hb; have HB := n0_; clear n0_)
    | (go_at_call 42; with_reducible refine (newReaches_calls _).mono ?_; rintro e_ w3 ⟨g, rfl, hI, hge_, hb⟩; have HI := Aside0.mk hI; have n0_ := Aside0.mk (below_step HB.out hb); have n1_ := Aside0.mk (Kd.R_below HV.out hb); clear HB HV hI hge_ hb; have HB := n0_; have HV := n1_; clear n0_ n1_)
    | ((with_reducible refine gate_dst (N := 16) rfl ?_); refine Kd.R_lit (Kd.int .i64) _ 3 ?hg (N := 16) ?hd (xs := [(e : Int)]) (inner := [.int .i64 (e : Int)]) (ok := fun _ => True) (okp := fun _ => True) ?hr ?hp (fun _ hk => hk) trivial (Below.refl _ _) (Nat.le_refl _) (by simp) ?_; (case hd => rfl); (case hg => rfl); (case hr => first | (go_simp; done) | (go_simp; rfl)); (case hp => exact (Reps.one rfl (Reps.none _ _))); intro v16 w4 ho hb hg_ hnew_; obtain ⟨A16, c16, eo_⟩ := Kd.R_slice ho; rw [List.length_singleton] at eo_; subst eo_; have HE := Aside0.mk (Kd.R_reads' ho).2.2; have n0_ := Aside0.mk (below_step HB.out hb); have n1_ := Aside0.mk (Kd.R_below HV.out hb); have n2_ := Aside0.mk (IsReaches.below HI.out hb); clear HB HV HI hg_ hnew_ ho hb; have HB := n0_; have HV := n1_; have HI := n2_; clear n0_ n1_ n2_)
    | (go_at_call 85; with_reducible refine (HRP.out _ _ _ HE.out).mono ?_; rintro e_ w5 ⟨g2, c2, rfl, hc2, hC2, hb⟩; have HE2 := Aside0.mk hC2; have n0_ := Aside0.mk (below_step HB.out hb); have n1_ := Aside0.mk (Kd.R_below HV.out hb); have n2_ := Aside0.mk (IsReaches.below HI.out hb); clear HB HV HI HE hc2 hC2 hb; have HB := n0_; have HV := n1_; have HI := n2_; clear n0_ n1_ n2_)
    | (go_at_call 84; with_reducible refine (HAL.out _ _ _ HE2.out).mono ?_; rintro e_ w6 ⟨v20, rfl, hs, hb⟩; obtain ⟨A20, c20, eo_⟩ := Kd.S_slice hs; rw [HRN.out] at eo_; subst eo_; have HS := Aside0.mk (Kd.S_lower hs HB.out.size); have n0_ := Aside0.mk (below_step HB.out hb); have n1_ := Aside0.mk (Kd.R_below HV.out hb); have n2_ := Aside0.mk (IsReaches.below HI.out hb); clear HB HV HI HE2 hs hb; have HB := n0_; have HV := n1_; have HI := n2_; clear n0_ n1_ n2_))
  clear HAL HRP
  go_loopg [6, 7, 22] R (fun gg v6 v7 v22 wr => ∃ (j : Nat) (best : List Int) (least : Int), v22 = .int .i64 j ∧ v7 = .int .i64 least ∧ j ≤ R ∧ R - j ≤ gg ∧ Aside0 ((all.take j).foldl (sStep sh (e : Int)) ([], 1125899906842624) = (best, least)) ∧ Aside0 (Kd.R (Kd.int .i64) 3 wr w.heap.size (fun _ => True) v6 best) ∧ Aside0 (Kd.S (Kd.slice 3 (Kd.int .i64)) 30 wr w.heap.size (fun _ => True) (.slice A20 R c20) all) ∧ Aside0 (IsReaches wr g) ∧ Aside0 (Below w.heap.size w wr) ∧ Aside0 (j ≤ 1000000))
  case atStart => exact ⟨0, [], 1125899906842624, rfl, rfl, Nat.zero_le _, Nat.le_refl _, ⟨rfl⟩, HV, HS, HI, HB, ⟨Nat.zero_le _⟩⟩
  case round =>
    clear HV HS HI HB
    obtain ⟨j, best, least, rfl, rfl, hj, hgg, HFO, HV, HS, HI, HB, HJM⟩ := hrel
    by_cases hjR : j < R
    · have hjz : (j : Int) < (R : Int) := by omega
      have hq := HMEM.out (all.getD j []) (by
        have := HRN.out
        rw [List.getD_eq_getElem?_getD, List.getElem?_eq_getElem (by omega)]; exact List.getElem_mem _)
      obtain ⟨ad, A1, cc, rfl, hx, hr⟩ := srow_at HS.out j hjR n hq.1
      have hfold : (all.take (j + 1)).foldl (sStep sh (e : Int)) ([], 1125899906842624) = sStep sh (e : Int) (best, least) (all.getD j []) := by
        have h9 := HRN.out
        rw [List.take_add_one, List.foldl_append, HFO.out, List.getElem?_eq_getElem (by omega), List.getD_eq_getElem?_getD, List.getElem?_eq_getElem (by omega)]
        rfl
      obtain ⟨q, hqq⟩ : ∃ q, all.getD j [] = q := ⟨_, rfl⟩
      rw [hqq] at hq hr hfold
      have HFD := Aside0.mk hfold
      have HRW := Aside0.mk hr
      have HQ := Aside0.mk hq
      have HSM := Aside0.mk (HSU.out A1 cc q wr hq.1 hq.2 (Kd.R_reads' hr).2.1 (by have h9_ := (Kd.R_reads' hr).2.2; rw [hq.1] at h9_; exact h9_))
      have HSQ : Aside0 (∀ W, IsReaches W g → Below w.heap.size w W → Kd.R (Kd.int .i64) 3 W w.heap.size (fun _ => True) (.slice A1 n cc) q → Calls Try.prog 58 #[.pointer (some ⟨g, 0, none⟩), .slice A n c, .slice A1 n cc] W fun e_ w' => e_ = .returned (.tuple #[.int .i64 (sh q).1, .bool (sh q).2]) ∧ W = w') := ⟨fun W a1 a2 a3 => HSH.out g A1 cc q W a1 a2 hq.1 hq.2 (by have h9_ := (Kd.R_reads' a3).2.2; rw [hq.1] at h9_; exact h9_)⟩
      have hw1 : IntKind.i64.wrap ((j : Int) + 1) = (j : Int) + 1 := by
        have h9 := HJM.out
        rw [i64_w]; unfold wrap64; omega
      have HJ2 : Aside0 (j + 1 ≤ 1000000) := ⟨by have h8 := HRL.out; clear hw1; omega⟩
      clear hq hr hfold hqq HFO
      generalize hsq : sSum q = s at HSM
      have HSS := Aside0.mk hsq
      clear hsq
      by_cases hse : s = (e : Int)
      · subst hse
        have hne1 : ((e : Int) != (e : Int)) = false := by simp
        generalize hshq : sh q = r at HSQ
        have HSR := Aside0.mk hshq
        clear hshq
        obtain ⟨x, bb⟩ := r
        simp only at HSQ
        by_cases hup : bb = true ∧ x < least
        · obtain ⟨rfl, hlt⟩ := hup
          have HN : Aside0 ((all.take (j + 1)).foldl (sStep sh (e : Int)) ([], 1125899906842624) = (q, x)) := ⟨by
            rw [HFD.out]; unfold sStep
            rw [if_pos HSS.out, HSR.out, if_pos ⟨rfl, hlt⟩]⟩
          clear HFD
          go_wp2_with (first
            | (go_at_call 86; with_reducible refine (HSM.out).mono ?_; rintro e_ w7 ⟨rfl, hb⟩; have n0_ := Aside0.mk (below_step HB.out hb); have n1_ := Aside0.mk (Kd.S_below HS.out hb); have n2_ := Aside0.mk (Kd.R_below HV.out hb); have n3_ := Aside0.mk (Kd.R_below HRW.out hb); have n4_ := Aside0.mk (IsReaches.below HI.out hb); clear HB HS HV HRW HI hx hb; have HB := n0_; have HS := n1_; have HV := n2_; have HRW := n3_; have HI := n4_; clear n0_ n1_ n2_ n3_ n4_)
            | (go_at_call 58; with_reducible refine (HSQ.out _ HI.out HB.out HRW.out).mono ?_; rintro e_ w_ ⟨rfl, rfl⟩))
          go_roundg (R - (j + 1))
          case measure => omega
          case rel => exact ⟨j + 1, q, x, by go_num, rfl, by clear hw1; omega, by clear hw1; omega, HN, HRW, HS, HI, HB, HJ2⟩
        · have HN : Aside0 ((all.take (j + 1)).foldl (sStep sh (e : Int)) ([], 1125899906842624) = (best, least)) := ⟨by
            rw [HFD.out]; unfold sStep
            rw [if_pos HSS.out, HSR.out, if_neg hup]⟩
          clear HFD
          cases bb with
          | true =>
            have hlt : ¬ x < least := fun h => hup ⟨rfl, h⟩
            clear hup
            go_wp2_with (first
              | (go_at_call 86; with_reducible refine (HSM.out).mono ?_; rintro e_ w7 ⟨rfl, hb⟩; have n0_ := Aside0.mk (below_step HB.out hb); have n1_ := Aside0.mk (Kd.S_below HS.out hb); have n2_ := Aside0.mk (Kd.R_below HV.out hb); have n3_ := Aside0.mk (Kd.R_below HRW.out hb); have n4_ := Aside0.mk (IsReaches.below HI.out hb); clear HB HS HV HRW HI hx hb; have HB := n0_; have HS := n1_; have HV := n2_; have HRW := n3_; have HI := n4_; clear n0_ n1_ n2_ n3_ n4_)
              | (go_at_call 58; with_reducible refine (HSQ.out _ HI.out HB.out HRW.out).mono ?_; rintro e_ w_ ⟨rfl, rfl⟩))
            go_roundg (R - (j + 1))
            case measure => omega
            case rel => exact ⟨j + 1, best, least, by go_num, rfl, by clear hw1; omega, by clear hw1; omega, HN, HV, HS, HI, HB, HJ2⟩
          | false =>
            clear hup
            go_wp2_with (first
              | (go_at_call 86; with_reducible refine (HSM.out).mono ?_; rintro e_ w7 ⟨rfl, hb⟩; have n0_ := Aside0.mk (below_step HB.out hb); have n1_ := Aside0.mk (Kd.S_below HS.out hb); have n2_ := Aside0.mk (Kd.R_below HV.out hb); have n3_ := Aside0.mk (Kd.R_below HRW.out hb); have n4_ := Aside0.mk (IsReaches.below HI.out hb); clear HB HS HV HRW HI hx hb; have HB := n0_; have HS := n1_; have HV := n2_; have HRW := n3_; have HI := n4_; clear n0_ n1_ n2_ n3_ n4_)
              | (go_at_call 58; with_reducible refine (HSQ.out _ HI.out HB.out HRW.out).mono ?_; rintro e_ w_ ⟨rfl, rfl⟩))
            go_roundg (R - (j + 1))
            case measure => omega
            case rel => exact ⟨j + 1, best, least, by go_num, rfl, by clear hw1; omega, by clear hw1; omega, HN, HV, HS, HI, HB, HJ2⟩
      · have hne1 : (s != (e : Int)) = true := by simpa using hse
        have HN : Aside0 ((all.take (j + 1)).foldl (sStep sh (e : Int)) ([], 1125899906842624) = (best, least)) := ⟨by
          rw [HFD.out]; unfold sStep
          rw [if_neg (by rw [HSS.out]; exact hse)]⟩
        clear HFD
        go_wp2_with (go_at_call 86; with_reducible refine (HSM.out).mono ?_; rintro e_ w7 ⟨rfl, hb⟩; have n0_ := Aside0.mk (below_step HB.out hb); have n1_ := Aside0.mk (Kd.S_below HS.out hb); have n2_ := Aside0.mk (Kd.R_below HV.out hb); have n3_ := Aside0.mk (Kd.R_below HRW.out hb); have n4_ := Aside0.mk (IsReaches.below HI.out hb); clear HB HS HV HRW HI hx hb; have HB := n0_; have HS := n1_; have HV := n2_; have HRW := n3_; have HI := n4_; clear n0_ n1_ n2_ n3_ n4_)
        go_roundg (R - (j + 1))
        case measure => omega
        case rel => exact ⟨j + 1, best, least, by go_num, rfl, by clear hw1; omega, by clear hw1; omega, HN, HV, HS, HI, HB, HJ2⟩
    · have hjz : ¬ (j : Int) < (R : Int) := by omega
      obtain rfl : j = R := by omega
      have HE1 : Aside0 (F = (best, least)) := ⟨by
        have h9 : all.take j = all := by rw [← HRN.out]; exact List.take_length
        rw [HF.out, ← HFO.out, h9]⟩
      go_wp2
      go_ret2
      rw [HE1.out]
      exact ⟨_, rfl, HV.out, HB.out⟩

end Go.Proofs.Ytiahedkmlacpkaa.PrintS
