-- written by this session's own driver (wip/gen.py) with the kit's print and contracts of our own
import Derived.Test.YtaniojfokildiaaDoorPrintA0
import Derived.Test.YtaniojfokildiaaDoorPrintA5
import Derived.Test.YtaniojfokildiaaDoorPrintA7
namespace Go.Proofs.YtaniojfokildiaaDoor.PrintA
open Go.RowKit Go.Proofs.YtaniojfokildiaaDoorLib Go.Proofs.YtaniojfokildiaaDoorW.PrintWords Go.Proofs.YtaniojfokildiaaDoorW.PrintLast Go.Proofs.YtaniojfokildiaaDoorW.PrintMore
attribute [local go_sem] max2_int min2_int max_two min_two max_three min_three max_four min_four   -- for this text's walks alone
set_option linter.unusedVariables false
set_option linter.unusedSimpArgs false

/-! behind spec_l1Num -/
/-- Bytes as a string. -/
def baOf (l : List UInt8) : ByteArray := ⟨l.toArray⟩
theorem baOf_list (l : List UInt8) : (baOf l).data.toList = l := by simp [baOf]
theorem baOf_size (l : List UInt8) : (baOf l).size = l.length := by simp [baOf, ByteArray.size]
theorem baOf_app (a b : List UInt8) : baOf a ++ baOf b = baOf (a ++ b) := by
  apply ByteArray.ext
  simp [baOf]
theorem ba_self (s : ByteArray) : baOf s.data.toList = s := by
  apply ByteArray.ext
  simp [baOf]
theorem digits_len (u : Nat) (h : u < 10000) : (Lib.decDigits u).length ≤ 4 ∧ 1 ≤ (Lib.decDigits u).length := by
  by_cases h1 : u < 10
  · rw [Lib.decDigits_one h1]; simp
  · rw [Lib.decDigits, dif_neg h1]
    by_cases h2 : u / 10 < 10
    · rw [Lib.decDigits_one h2]; simp
    · rw [Lib.decDigits, dif_neg h2]
      by_cases h3 : u / 10 / 10 < 10
      · rw [Lib.decDigits_one h3]; simp
      · rw [Lib.decDigits, dif_neg h3, Lib.decDigits_one (by omega : u / 10 / 10 / 10 < 10)]; simp
theorem itoa_nat (u : Nat) : Lib.itoa (u : Int) = Lib.decDigits u := by
  unfold Lib.itoa
  rw [if_neg (by omega)]; simp
theorem one_str (q : Nat) (h : q < 10) : strOfNums [wrap64 (48 + (q : Int)) % 256] = baOf [UInt8.ofNat (48 + q)] := by
  have e : wrap64 (48 + (q : Int)) % 256 = ((48 + q : Nat) : Int) := by unfold wrap64; omega
  have e2 : (48 + (q : Int)).toNat = 48 + q := by omega
  rw [e]
  unfold strOfNums baOf
  rw [List.map_singleton, Int.toNat_natCast]
theorem l1Num_is : ∀ (k n : Nat), n ≤ 9999 → n < k → spec_l1Num.f k (n : Int) = some (baOf (Lib.decDigits n))
  | 0, n, _, h => by omega
  | k + 1, n, h0, hk => by
    rw [spec_l1Num.f]
    by_cases h : n < 10
    · rw [if_pos (by omega), one_str n h, Lib.decDigits_one h]
    · have e1 : wrap64 (Int.tdiv (n : Int) 10) = ((n / 10 : Nat) : Int) := by
        rw [show Int.tdiv (n : Int) 10 = ((n / 10 : Nat) : Int) from rfl]; unfold wrap64; omega
      have e2 : Int.tmod (n : Int) 10 = ((n % 10 : Nat) : Int) := rfl
      have hl := (digits_len (n / 10) (by omega)).1
      rw [if_neg (by omega), e1, l1Num_is k (n / 10) (by omega) (by omega), Option.bind_some, Option.bind_some, e2, one_str (n % 10) (by omega), if_pos (by rw [baOf_size, baOf_size]; simp only [List.length_singleton]; omega), baOf_app]
      conv => rhs; rw [Lib.decDigits, dif_neg h]

/-! ### spec_hoText: function 25 -/
def spec_hoText.l0 : Nat → ByteArray → List Int → Int → Int → Option (ByteArray)
  | 0, _, _, _, _ => none
  | k + 1, x3, x6, x7, x8 => if x8 < x7 then (if 0 ≤ x8 then (if x8 < (x6.length : Int) then (if x8 > 0 then (if x3.size + 1 ≤ 9223372036854775807 then ((spec_l1Num.f k (rd x6 x8)).bind fun t125 => (if (x3 ++ (⟨#[47]⟩ : ByteArray)).size + t125.size ≤ 9223372036854775807 then (spec_hoText.l0 k ((x3 ++ (⟨#[47]⟩ : ByteArray)) ++ t125) x6 x7 (wrap64 (x8 + 1))) else (none))) else (none)) else ((spec_l1Num.f k (rd x6 x8)).bind fun t126 => (if x3.size + t126.size ≤ 9223372036854775807 then (spec_hoText.l0 k (x3 ++ t126) x6 x7 (wrap64 (x8 + 1))) else (none)))) else (none)) else (none)) else (some x3)
def spec_hoText.f (k : Nat) (l0 : List Int) : Option (ByteArray) := spec_hoText.l0 k (⟨#[]⟩ : ByteArray) l0 (l0.length : Int) 0
theorem spec_hoText.mono_l : ∀ k, (∀ y0 y1 y2 y3, LeO (spec_hoText.l0 k y0 y1 y2 y3) (spec_hoText.l0 (k + 1) y0 y1 y2 y3))
  | 0 => fun _ _ _ _ r h => by simp [spec_hoText.l0] at h
  | k + 1 => by
    have ih0 := spec_hoText.mono_l k
    · intro y0 y1 y2 y3
      unfold spec_hoText.l0
      repeat' first
      | (with_reducible exact ih0 _ _ _ _)
      | (with_reducible exact spec_l1Num.mono _ _)
      | (with_reducible exact LeO.refl _)
      | (with_reducible exact LeO.none _)
      | (with_reducible refine LeO.ite ?_ ?_)
      | (with_reducible refine LeO.bind ?_ (fun _ => ?_))
      | exact ih0 _ _ _ _
      | exact spec_l1Num.mono _ _
      | exact LeO.none _
      | refine LeO.ite ?_ ?_
      | refine LeO.bind ?_ (fun _ => ?_)
theorem spec_hoText.mono : ∀ a0 k, LeO (spec_hoText.f k a0) (spec_hoText.f (k + 1) a0) := by
  intro a0 k
  have ih0 := spec_hoText.mono_l k
  unfold spec_hoText.f
  repeat' first
      | (with_reducible exact ih0 _ _ _ _)
      | (with_reducible exact spec_l1Num.mono _ _)
      | (with_reducible exact LeO.refl _)
      | (with_reducible exact LeO.none _)
      | (with_reducible refine LeO.ite ?_ ?_)
      | (with_reducible refine LeO.bind ?_ (fun _ => ?_))
      | exact ih0 _ _ _ _
      | exact spec_l1Num.mono _ _
      | exact LeO.none _
      | refine LeO.ite ?_ ?_
      | refine LeO.bind ?_ (fun _ => ?_)
set_option maxHeartbeats 8000000 in
set_option maxRecDepth 100000 in
theorem spec_hoText.calls (k : Nat) (A0 : Option Addr) (c0 : Nat) (l0 : List Int) (r : ByteArray) (w : World) (hr0 : Kd.C (Kd.int .i64) w A0 l0.length l0) (hc0 : l0.length ≤ c0) (h : spec_hoText.f k l0 = some r) :
    Calls Tryd.prog 25 #[.slice A0 l0.length c0] w fun e w' => e = .returned (.string r) ∧ Below w.heap.size w w' := by
  have HR0 := Aside0.mk hr0
  have HC0 := Aside0.mk hc0
  clear hr0 hc0
  have HB := Aside0.mk (Below.refl w.heap.size w)
  have H : (spec_hoText.l0 k (⟨#[]⟩ : ByteArray) l0 (l0.length : Int) 0) = some r := h
  clear h
  have H' := Aside0.mk H
  clear H
  go_enter Tryd.func25, Tryd.ntmps25
  go_wp2
  go_loopg [3, 8] k (fun kq v3 v8 w' => ∃ (x3_1 : ByteArray) (x8_1 : Int), v3 = .string x3_1 ∧ v8 = .int .i64 x8_1 ∧ Aside0 (spec_hoText.l0 kq x3_1 l0 (l0.length : Int) x8_1 = some r) ∧ Aside0 (kq ≤ k) ∧ Aside0 (Below w.heap.size w w'))
  case atStart => exact ⟨((⟨#[]⟩ : ByteArray)), (0), (by first | rfl | (simp; done) | (simp [*]; done)), (by first | rfl | (simp; done) | (simp [*]; done)), H', ⟨Nat.le_refl _⟩, ⟨by repeat (first | (with_reducible first | exact HB.out | apply below_alloc | apply pw_below_drewN | apply below_drew1) | exact HB.out)⟩⟩
  case round =>
    clear H'
    obtain ⟨x3_1, x8_1, rfl, rfl, HA, HK1, HB⟩ := hrel
    cases gk with
    | zero => exact absurd HA.out (by simp [spec_hoText.l0])
    | succ k1 =>
      have H := HA.out
      clear HA
      simp only [spec_hoText.l0] at H
      by_cases c2 : x8_1 < (l0.length : Int)
      · rw [if_pos c2] at H
        have c2b0 : decide (x8_1 < (l0.length : Int)) = true := decide_eq_true c2
        clear c2
        by_cases c3 : 0 ≤ x8_1
        · rw [if_pos c3] at H
          have c3b0 : decide (0 ≤ x8_1) = true := decide_eq_true c3
          clear c3
          by_cases c4 : x8_1 < (l0.length : Int)
          · rw [if_pos c4] at H
            have c4b0 : decide (x8_1 < (l0.length : Int)) = true := decide_eq_true c4
            clear c4
            by_cases c5 : x8_1 > 0
            · rw [if_pos c5] at H
              have c5b0 : decide (0 < x8_1) = true := decide_eq_true c5
              clear c5
              by_cases c6 : x3_1.size + 1 ≤ 9223372036854775807
              · rw [if_pos c6] at H
                have c6b0 := eq_true c6
                have c6b1 : decide (x3_1.size + 1 ≤ 9223372036854775807) = true := decide_eq_true c6
                try have c6b2 : (9223372036854775807 < x3_1.size + 1) = False := eq_false (Nat.not_lt.2 c6)
                replace H := Option.bind_eq_some_iff.mp H
                obtain ⟨t125, A70, H⟩ := H
                replace H : (if (x3_1 ++ (⟨#[47]⟩ : ByteArray)).size + t125.size ≤ 9223372036854775807 then (spec_hoText.l0 k1 ((x3_1 ++ (⟨#[47]⟩ : ByteArray)) ++ t125) l0 (l0.length : Int) (wrap64 (x8_1 + 1))) else (none)) = some r := H
                have A7 := Aside0.mk A70
                clear A70
                by_cases c8 : (x3_1 ++ (⟨#[47]⟩ : ByteArray)).size + t125.size ≤ 9223372036854775807
                · rw [if_pos c8] at H
                  have c8b0 := eq_true c8
                  have c8b1 : decide ((x3_1 ++ (⟨#[47]⟩ : ByteArray)).size + t125.size ≤ 9223372036854775807) = true := decide_eq_true c8
                  try have c8b2 : (9223372036854775807 < (x3_1 ++ (⟨#[47]⟩ : ByteArray)).size + t125.size) = False := eq_false (Nat.not_lt.2 c8)
                  have c8s : x3_1.size + 1 + t125.size ≤ 9223372036854775807 := by have c8t := c8; rw [ByteArray.size_append] at c8t; exact c8t
                  have c8s0 := eq_true c8s
                  have c8s1 : decide (x3_1.size + 1 + t125.size ≤ 9223372036854775807) = true := decide_eq_true c8s
                  have c8s2 : (9223372036854775807 < x3_1.size + 1 + t125.size) = False := eq_false (Nat.not_lt.2 c8s)
                  have H' := Aside0.mk H
                  clear H
                  have p124 : 0 ≤ (x8_1 : Int) := of_decide_eq_true (by first | (with_reducible assumption) | assumption)
                  have q124 : x8_1 < (l0.length : Int) := of_decide_eq_true (by first | (with_reducible assumption) | assumption)
                  obtain ⟨ad124, e124, hx124_0⟩ := Kd.at_int HR0.out x8_1 p124 q124
                  cases e124
                  replace hx124_0 := (HB.out.cell (World.block_lt_of_cell? w _ hx124_0)).trans hx124_0
                  replace p124 := eq_true p124
                  replace q124 := eq_true q124
                  go_wp2_with (first | ((with_reducible refine gate_callee (f := 36) rfl ?_); refine goesL_ (some 19) rfl rfl Tryd.func36 (by kernel_rfl) rfl #[.int .i64 (rd l0 x8_1)] rfl (by (try simp only [List.map_toArray, List.map_cons, List.map_nil]); first | done | rfl | (simp only [List.length_drop, List.length_take]; rfl)) ?_; (with_reducible refine (spec_l1Num.calls k1 (rd l0 x8_1) t125 _ A7.out).mono ?_); rintro e w9 ⟨rfl, hb⟩; refine ⟨_, rfl, ?_⟩; have n0_ := Aside0.mk (below_step (by repeat (first | (with_reducible first | exact HB.out | apply below_alloc | apply pw_below_drewN | apply below_drew1) | exact HB.out)) hb); clear HB; have HB := n0_; clear n0_; (try clear hb); (try clear hb2); (try clear hk); (try clear hi)))
                  go_roundg k1
                  case measure => have := HK1.out; omega
                  case rel => exact ⟨((x3_1 ++ (⟨#[47]⟩ : ByteArray)) ++ t125), (wrap64 (x8_1 + 1)), (by first | rfl | (simp; done) | (simp [*]; done)), (by first | rfl | (simp; done) | (simp [*]; done)), H', ⟨by have := HK1.out; omega⟩, ⟨by repeat (first | (with_reducible first | exact HB.out | apply below_alloc | apply pw_below_drewN | apply below_drew1) | exact HB.out)⟩⟩
                · rw [if_neg c8] at H
                  exact absurd H (by simp)
              · rw [if_neg c6] at H
                exact absurd H (by simp)
            · rw [if_neg c5] at H
              have c5b0 : decide (0 < x8_1) = false := decide_eq_false c5
              clear c5
              replace H := Option.bind_eq_some_iff.mp H
              obtain ⟨t126, A100, H⟩ := H
              replace H : (if x3_1.size + t126.size ≤ 9223372036854775807 then (spec_hoText.l0 k1 (x3_1 ++ t126) l0 (l0.length : Int) (wrap64 (x8_1 + 1))) else (none)) = some r := H
              have A10 := Aside0.mk A100
              clear A100
              by_cases c11 : x3_1.size + t126.size ≤ 9223372036854775807
              · rw [if_pos c11] at H
                have c11b0 := eq_true c11
                have c11b1 : decide (x3_1.size + t126.size ≤ 9223372036854775807) = true := decide_eq_true c11
                try have c11b2 : (9223372036854775807 < x3_1.size + t126.size) = False := eq_false (Nat.not_lt.2 c11)
                have H' := Aside0.mk H
                clear H
                have p124 : 0 ≤ (x8_1 : Int) := of_decide_eq_true (by first | (with_reducible assumption) | assumption)
                have q124 : x8_1 < (l0.length : Int) := of_decide_eq_true (by first | (with_reducible assumption) | assumption)
                obtain ⟨ad124, e124, hx124_0⟩ := Kd.at_int HR0.out x8_1 p124 q124
                cases e124
                replace hx124_0 := (HB.out.cell (World.block_lt_of_cell? w _ hx124_0)).trans hx124_0
                replace p124 := eq_true p124
                replace q124 := eq_true q124
                go_wp2_with (first | ((with_reducible refine gate_callee (f := 36) rfl ?_); refine goesL_ (some 19) rfl rfl Tryd.func36 (by kernel_rfl) rfl #[.int .i64 (rd l0 x8_1)] rfl (by (try simp only [List.map_toArray, List.map_cons, List.map_nil]); first | done | rfl | (simp only [List.length_drop, List.length_take]; rfl)) ?_; (with_reducible refine (spec_l1Num.calls k1 (rd l0 x8_1) t126 _ A10.out).mono ?_); rintro e w12 ⟨rfl, hb⟩; refine ⟨_, rfl, ?_⟩; have n0_ := Aside0.mk (below_step (by repeat (first | (with_reducible first | exact HB.out | apply below_alloc | apply pw_below_drewN | apply below_drew1) | exact HB.out)) hb); clear HB; have HB := n0_; clear n0_; (try clear hb); (try clear hb2); (try clear hk); (try clear hi)))
                go_roundg k1
                case measure => have := HK1.out; omega
                case rel => exact ⟨(x3_1 ++ t126), (wrap64 (x8_1 + 1)), (by first | rfl | (simp; done) | (simp [*]; done)), (by first | rfl | (simp; done) | (simp [*]; done)), H', ⟨by have := HK1.out; omega⟩, ⟨by repeat (first | (with_reducible first | exact HB.out | apply below_alloc | apply pw_below_drewN | apply below_drew1) | exact HB.out)⟩⟩
              · rw [if_neg c11] at H
                exact absurd H (by simp)
          · rw [if_neg c4] at H
            exact absurd H (by simp)
        · rw [if_neg c3] at H
          exact absurd H (by simp)
      · rw [if_neg c2] at H
        have c2b0 : decide (x8_1 < (l0.length : Int)) = false := decide_eq_false c2
        clear c2
        obtain rfl := Option.some.inj H
        go_wp2
        go_ret
        exact ⟨by first | rfl | (simp [errW_none, errW_some] <;> rfl) | (simp [*, errW_none, errW_some] <;> rfl), by repeat (first | (with_reducible first | exact HB.out | apply below_alloc | apply pw_below_drewN | apply below_drew1) | exact HB.out)⟩

/-! behind spec_hoText -/
theorem hoText_l0 (L : List Int) (hL : L.length ≤ 1000) (hx : ∀ x ∈ L, 0 ≤ x ∧ x ≤ 1000) : ∀ (d k i : Nat) (acc : List UInt8), 1 ≤ i → i ≤ L.length → L.length - i = d → 2000 + d < k → acc.length ≤ 10 * i →
    spec_hoText.l0 k (baOf acc) L (L.length : Int) (i : Int) = some (baOf (acc ++ Lib.joinTail [47] ((L.drop i).map Lib.itoa)))
  | 0, k, i, acc, h1, hi, hd, hk, ha => by
    obtain ⟨k, rfl⟩ : ∃ m, k = m + 1 := ⟨k - 1, by omega⟩
    rw [spec_hoText.l0, if_neg (by omega), List.drop_of_length_le (by omega)]
    simp [Lib.joinTail]
  | d + 1, k, i, acc, h1, hi, hd, hk, ha => by
    obtain ⟨k, rfl⟩ : ∃ m, k = m + 1 := ⟨k - 1, by omega⟩
    have hlt : i < L.length := by omega
    have hr : rd L (i : Int) = L[i] := by simp [rd, List.getD_eq_getElem?_getD, hlt]
    have hb := hx L[i] (List.getElem_mem hlt)
    obtain ⟨u, hu⟩ : ∃ u : Nat, L[i] = (u : Int) := ⟨L[i].toNat, by omega⟩
    have e2 : wrap64 ((i : Int) + 1) = ((i + 1 : Nat) : Int) := by unfold wrap64; omega
    have hdl := (digits_len u (by clear e2; omega)).1
    have es : (⟨#[47]⟩ : ByteArray) = baOf [47] := rfl
    rw [spec_hoText.l0, if_pos (by clear e2; omega), if_pos (by clear e2; omega), if_pos (by clear e2; omega), if_pos (by clear e2; omega), if_pos (by rw [baOf_size]; clear e2; omega), hr, hu, l1Num_is k u (by clear e2; omega) (by clear e2; omega), Option.bind_some, es, baOf_app, if_pos (by rw [baOf_size, baOf_size, List.length_append, List.length_singleton]; clear e2; omega), baOf_app, e2]
    rw [hoText_l0 L hL hx d k (i + 1) _ (by clear e2; omega) (by clear e2; omega) (by clear e2; omega) (by clear e2; omega) (by rw [List.length_append, List.length_append, List.length_singleton]; clear e2; omega)]
    rw [List.drop_eq_getElem_cons hlt, List.map_cons, hu, itoa_nat]
    simp [Lib.joinTail]
theorem hoText_is (L : List Int) (hL : L.length ≤ 1000) (hx : ∀ x ∈ L, 0 ≤ x ∧ x ≤ 1000) (k : Nat) (hk : 4000 ≤ k) : spec_hoText.f k L = some (baOf (Lib.join (L.map Lib.itoa) [47])) := by
  unfold spec_hoText.f
  obtain ⟨k, rfl⟩ : ∃ m, k = m + 1 := ⟨k - 1, by omega⟩
  cases L with
  | nil =>
    rw [spec_hoText.l0, if_neg (by simp)]
    rfl
  | cons a t =>
    have hb := hx a (by simp)
    obtain ⟨u, rfl⟩ : ∃ u : Nat, a = (u : Int) := ⟨a.toNat, by omega⟩
    have hdl := (digits_len u (by omega)).1
    have e0 : (⟨#[]⟩ : ByteArray) = baOf [] := rfl
    have hr : rd ((u : Int) :: t) 0 = (u : Int) := rfl
    have e2 : wrap64 ((0 : Int) + 1) = ((1 : Nat) : Int) := by unfold wrap64; omega
    have h := hoText_l0 ((u : Int) :: t) hL hx t.length k 1 (Lib.decDigits u) (by clear e2; omega) (by simp) (by simp) (by rw [List.length_cons] at hL; clear e2; omega) (by clear e2; omega)
    rw [spec_hoText.l0, if_pos (by simp only [List.length_cons]; clear e2; omega), if_pos (by clear e2; omega), if_pos (by simp only [List.length_cons]; clear e2; omega), if_neg (by clear e2; omega), hr, l1Num_is k u (by clear e2; omega) (by clear e2; omega), Option.bind_some, e0, baOf_app, if_pos (by rw [baOf_size, baOf_size]; simp only [List.length_nil]; clear e2; omega), e2, List.nil_append, h, List.map_cons, Lib.join_cons, itoa_nat]
    simp

/-! ### spec_HousesText: function 15 -/
def spec_HousesText.f (k : Nat) (l0 : List Int) : Option (ByteArray × Bool) := (spec_hoGood.f k l0).bind fun t127 => (if t127 = true then ((spec_hoText.f k l0).bind fun t128 => (some (t128, true))) else (some ((⟨#[]⟩ : ByteArray), false)))
theorem spec_HousesText.mono : ∀ a0 k, LeO (spec_HousesText.f k a0) (spec_HousesText.f (k + 1) a0) := by
  intro a0 k
  unfold spec_HousesText.f
  repeat' first
      | (with_reducible exact spec_hoGood.mono _ _)
      | (with_reducible exact spec_hoText.mono _ _)
      | (with_reducible exact LeO.refl _)
      | (with_reducible exact LeO.none _)
      | (with_reducible refine LeO.ite ?_ ?_)
      | (with_reducible refine LeO.bind ?_ (fun _ => ?_))
      | exact spec_hoGood.mono _ _
      | exact spec_hoText.mono _ _
      | exact LeO.none _
      | refine LeO.ite ?_ ?_
      | refine LeO.bind ?_ (fun _ => ?_)
set_option maxHeartbeats 8000000 in
set_option maxRecDepth 100000 in
theorem spec_HousesText.calls (k : Nat) (A0 : Option Addr) (c0 : Nat) (l0 : List Int) (r1 : ByteArray) (r2 : Bool) (w : World) (hr0 : Kd.C (Kd.int .i64) w A0 l0.length l0) (hc0 : l0.length ≤ c0) (h : spec_HousesText.f k l0 = some (r1, r2)) :
    Calls Tryd.prog 15 #[.slice A0 l0.length c0] w fun e w' => e = .returned (.tuple #[.string r1, .bool r2]) ∧ Below w.heap.size w w' := by
  have HR0 := Aside0.mk hr0
  have HC0 := Aside0.mk hc0
  clear hr0 hc0
  have HB := Aside0.mk (Below.refl w.heap.size w)
  have H : ((spec_hoGood.f k l0).bind fun t127 => (if t127 = true then ((spec_hoText.f k l0).bind fun t128 => (some (t128, true))) else (some ((⟨#[]⟩ : ByteArray), false)))) = some (r1, r2) := h
  clear h
  replace H := Option.bind_eq_some_iff.mp H
  obtain ⟨t127, A20, H⟩ := H
  replace H : (if t127 = true then ((spec_hoText.f k l0).bind fun t128 => (some (t128, true))) else (some ((⟨#[]⟩ : ByteArray), false))) = some (r1, r2) := H
  have A2 := Aside0.mk A20
  clear A20
  by_cases c3 : t127 = true
  · subst c3
    have H1 : ((spec_hoText.f k l0).bind fun t128 => (some (t128, true))) = some (r1, r2) := by rw [if_pos rfl] at H; exact H
    clear H
    have H := H1
    clear H1
    replace H := Option.bind_eq_some_iff.mp H
    obtain ⟨t128, A40, H⟩ := H
    replace H : (some (t128, true)) = some (r1, r2) := H
    have A4 := Aside0.mk A40
    clear A40
    simp only [Option.some.injEq, Prod.mk.injEq] at H
    obtain ⟨rfl, rfl⟩ := H
    go_enter Tryd.func15, Tryd.ntmps15
    go_wp2_with (first | ((with_reducible refine gate_callee (f := 24) rfl ?_); refine goesL_ (some 5) rfl rfl Tryd.func24 (by kernel_rfl) rfl #[.slice A0 l0.length c0] rfl (by (try simp only [List.map_toArray, List.map_cons, List.map_nil]); first | done | rfl | (simp only [List.length_drop, List.length_take]; rfl)) ?_; (with_reducible refine (spec_hoGood.calls k _ _ l0 true _ ?side1 ?side2 A2.out).mono ?_); (case side1 => repeat (first | exact HR0.out | (with_reducible refine Kd.C_alloc ?_ _) | (with_reducible refine Kd.C_drewN ?_ _) | (with_reducible refine Kd.C_drew ?_))); (case side2 => exact HC0.out); rintro e w' ⟨rfl, ⟨nd, rfl⟩⟩; refine ⟨_, rfl, ?_⟩) | ((with_reducible refine gate_callee (f := 25) rfl ?_); refine goesL_ (some 8) rfl rfl Tryd.func25 (by kernel_rfl) rfl #[.slice A0 l0.length c0] rfl (by (try simp only [List.map_toArray, List.map_cons, List.map_nil]); first | done | rfl | (simp only [List.length_drop, List.length_take]; rfl)) ?_; (with_reducible refine (spec_hoText.calls k _ _ l0 t128 _ ?side1 ?side2 A4.out).mono ?_); (case side1 => repeat (first | exact HR0.out | (with_reducible refine Kd.C_alloc ?_ _) | (with_reducible refine Kd.C_drewN ?_ _) | (with_reducible refine Kd.C_drew ?_))); (case side2 => exact HC0.out); rintro e w5 ⟨rfl, hb⟩; refine ⟨_, rfl, ?_⟩; have n0_ := Aside0.mk (below_step (by repeat (first | (with_reducible first | exact HB.out | apply below_alloc | apply pw_below_drewN | apply below_drew1) | exact HB.out)) hb); clear HB; have HB := n0_; clear n0_; (try clear hb); (try clear hb2); (try clear hk); (try clear hi)))
    go_ret2
    exact ⟨by first | rfl | (simp [errW_none, errW_some] <;> rfl) | (simp [*, errW_none, errW_some] <;> rfl), by repeat (first | (with_reducible first | exact HB.out | apply below_alloc | apply pw_below_drewN | apply below_drew1) | exact HB.out)⟩
  · replace c3 := Bool.eq_false_iff.mpr c3
    subst c3
    have H1 : (some ((⟨#[]⟩ : ByteArray), false)) = some (r1, r2) := by rw [if_neg (show ¬ (false = true) by decide)] at H; exact H
    clear H
    have H := H1
    clear H1
    simp only [Option.some.injEq, Prod.mk.injEq] at H
    obtain ⟨rfl, rfl⟩ := H
    go_enter Tryd.func15, Tryd.ntmps15
    go_wp2_with (first | ((with_reducible refine gate_callee (f := 24) rfl ?_); refine goesL_ (some 5) rfl rfl Tryd.func24 (by kernel_rfl) rfl #[.slice A0 l0.length c0] rfl (by (try simp only [List.map_toArray, List.map_cons, List.map_nil]); first | done | rfl | (simp only [List.length_drop, List.length_take]; rfl)) ?_; (with_reducible refine (spec_hoGood.calls k _ _ l0 false _ ?side1 ?side2 A2.out).mono ?_); (case side1 => repeat (first | exact HR0.out | (with_reducible refine Kd.C_alloc ?_ _) | (with_reducible refine Kd.C_drewN ?_ _) | (with_reducible refine Kd.C_drew ?_))); (case side2 => exact HC0.out); rintro e w' ⟨rfl, ⟨nd, rfl⟩⟩; refine ⟨_, rfl, ?_⟩))
    go_ret2
    exact ⟨by first | rfl | (simp [errW_none, errW_some] <;> rfl) | (simp [*, errW_none, errW_some] <;> rfl), by repeat (first | (with_reducible first | exact HB.out | apply below_alloc | apply pw_below_drewN | apply below_drew1) | exact HB.out)⟩

end Go.Proofs.YtaniojfokildiaaDoor.PrintA
