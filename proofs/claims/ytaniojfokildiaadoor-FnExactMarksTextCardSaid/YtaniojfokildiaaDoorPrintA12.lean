-- written by this session's own driver (wip/gen.py) with the kit's print and contracts of our own
import Derived.Test.YtaniojfokildiaaDoorPrintA0
import Derived.Test.YtaniojfokildiaaDoorPrintA5
import Derived.Test.YtaniojfokildiaaDoorPrintA6
import Derived.Test.YtaniojfokildiaaDoorPrintA8
import Derived.Test.YtaniojfokildiaaDoorPrintA11
namespace Go.Proofs.YtaniojfokildiaaDoor.PrintA
open Go.RowKit Go.Proofs.YtaniojfokildiaaDoorLib Go.Proofs.YtaniojfokildiaaDoorW.PrintWords Go.Proofs.YtaniojfokildiaaDoorW.PrintLast Go.Proofs.YtaniojfokildiaaDoorW.PrintMore
attribute [local go_sem] max2_int min2_int max_two min_two max_three min_three max_four min_four   -- for this text's walks alone
set_option linter.unusedVariables false
set_option linter.unusedSimpArgs false

/-! behind impl_numbersText -/
theorem joinTail_len (s : List UInt8) (n : Nat) : ∀ l : List (List UInt8), (∀ x ∈ l, x.length ≤ n) → (Lib.joinTail s l).length ≤ l.length * (s.length + n)
  | [], _ => by simp [Lib.joinTail]
  | a :: t, h => by
    have ih := joinTail_len s n t (fun x hx => h x (List.mem_cons_of_mem _ hx))
    have ha := h a List.mem_cons_self
    have e : Lib.joinTail s (a :: t) = (s ++ a) ++ Lib.joinTail s t := by simp [Lib.joinTail]
    rw [e, List.length_append, List.length_append, List.length_cons, Nat.succ_mul]
    omega
theorem numbers_len (s : List UInt8) (L : List Int) (hL : L.length ≤ 1000) (hs : s.length ≤ 10) (hx : ∀ x ∈ L, 0 ≤ x ∧ x ≤ 1000) : (Lib.join (L.map Lib.itoa) s).length ≤ 20000 := by
  have hd : ∀ x ∈ L.map Lib.itoa, x.length ≤ 4 := by
    intro x hm
    obtain ⟨y, hy, rfl⟩ := List.mem_map.1 hm
    have h1 := hx y hy
    obtain ⟨u, rfl⟩ : ∃ u : Nat, y = u := ⟨y.toNat, by omega⟩
    rw [itoa_nat]
    exact (digits_len u (by omega)).1
  cases L with
  | nil => simp [Lib.join]
  | cons a t =>
    rw [List.map_cons, Lib.join_cons, List.length_append]
    have h1 := hd (Lib.itoa a) (by simp)
    have h2 := joinTail_len s 4 (t.map Lib.itoa) (fun x hx => hd x (by rw [List.map_cons]; exact List.mem_cons_of_mem _ hx))
    rw [List.length_map] at h2
    have h3 : t.length ≤ 999 := by rw [List.length_cons] at hL; omega
    have h4 : t.length * (s.length + 4) ≤ 999 * 14 := Nat.mul_le_mul h3 (by omega)
    omega
theorem numbersText_l0 (s : ByteArray) (L : List Int) (hL : L.length ≤ 1000) (hs : s.size ≤ 10) (hx : ∀ x ∈ L, 0 ≤ x ∧ x ≤ 1000) : ∀ (d k i : Nat), i ≤ L.length → L.length - i = d → d < k → impl_numbersText.l0 k s ((L.take i).map (fun x => baOf (Lib.itoa x))) L (L.length : Int) (i : Int) = some (baOf (Lib.join (L.map Lib.itoa) s.data.toList))
  | 0, k, i, hi, hd, hk => by
    obtain ⟨k, rfl⟩ : ∃ m, k = m + 1 := ⟨k - 1, by omega⟩
    have e : (L.take i).map (fun x => baOf (Lib.itoa x)) = L.map (fun x => baOf (Lib.itoa x)) := by rw [List.take_of_length_le (by omega)]
    have ej : joinB (L.map (fun x => baOf (Lib.itoa x))) s = baOf (Lib.join (L.map Lib.itoa) s.data.toList) := by
      unfold joinB
      rw [List.map_map]
      rw [show ((fun x : ByteArray => x.data.toList) ∘ fun x => baOf (Lib.itoa x)) = Lib.itoa from funext fun x => baOf_list _]; rfl
    have hl := numbers_len s.data.toList L hL (by rw [Array.length_toList]; exact hs) hx
    rw [impl_numbersText.l0, if_neg (by omega), e]
    unfold strings_Join.f
    rw [ej, if_pos ⟨by rw [baOf_size]; omega, by rw [List.length_map]; omega⟩]; rfl
  | d + 1, k, i, hi, hd, hk => by
    obtain ⟨k, rfl⟩ : ∃ m, k = m + 1 := ⟨k - 1, by omega⟩
    have hlt : i < L.length := by omega
    have hr : rd L (i : Int) = L[i] := by simp [rd, List.getD_eq_getElem?_getD, hlt]
    have hb := hx L[i] (List.getElem_mem hlt)
    have e2 : wrap64 ((i : Int) + 1) = ((i + 1 : Nat) : Int) := by unfold wrap64; omega
    have ih := numbersText_l0 s L hL hs hx d k (i + 1) (by omega) (by omega) (by omega)
    rw [impl_numbersText.l0, if_pos (by clear e2; omega), if_pos (by clear e2; omega), if_pos (by clear e2; omega), hr, e2]
    unfold strconv_Itoa_31.f
    rw [if_pos (by clear e2; omega), Option.bind_some, if_pos (by rw [List.length_map, List.length_take]; clear e2; omega)]
    have et : L.take (i + 1) = L.take i ++ [L[i]] := by rw [List.take_add_one, List.getElem?_eq_getElem hlt]; rfl
    rw [et, List.map_append, List.map_singleton] at ih
    exact ih
theorem numbersText_is (s : ByteArray) (L : List Int) (hL : L.length ≤ 1000) (hs : s.size ≤ 10) (hx : ∀ x ∈ L, 0 ≤ x ∧ x ≤ 1000) (k : Nat) (hk : L.length < k) : impl_numbersText.f k L s = some (baOf (Lib.join (L.map Lib.itoa) s.data.toList)) := by
  have h := numbersText_l0 s L hL hs hx L.length k 0 (by omega) (by omega) hk
  unfold impl_numbersText.f
  simpa using h


/-! behind impl_within -/
theorem impl_within_is (a lo hi : Int) : impl_within.f a lo hi = some (decide (lo ≤ a) && decide (a ≤ hi)) := by
  unfold impl_within.f
  by_cases h : a ≥ lo
  · rw [if_pos h, decide_eq_true (by omega : lo ≤ a)]; rfl
  · rw [if_neg h, decide_eq_false (by omega : ¬ lo ≤ a)]; rfl

/-! ### impl_HousesText: function 16 -/
def impl_HousesText.f (k : Nat) (l0 : List Int) : Option (ByteArray × Bool) := (impl_AreHouses.f l0).bind fun t157 => (if t157 = true then ((impl_numbersText.f k l0 (⟨#[47]⟩ : ByteArray)).bind fun t158 => (some (t158, true))) else (some ((⟨#[]⟩ : ByteArray), false)))
theorem impl_HousesText.mono : ∀ a0 k, LeO (impl_HousesText.f k a0) (impl_HousesText.f (k + 1) a0) := by
  intro a0 k
  unfold impl_HousesText.f
  repeat' first
      | (with_reducible exact impl_numbersText.mono _ _ _)
      | (with_reducible exact LeO.refl _)
      | (with_reducible exact LeO.none _)
      | (with_reducible refine LeO.ite ?_ ?_)
      | (with_reducible refine LeO.bind ?_ (fun _ => ?_))
      | exact impl_numbersText.mono _ _ _
      | exact LeO.none _
      | refine LeO.ite ?_ ?_
      | refine LeO.bind ?_ (fun _ => ?_)
set_option maxHeartbeats 8000000 in
set_option maxRecDepth 100000 in
theorem impl_HousesText.calls (k : Nat) (A0 : Option Addr) (c0 : Nat) (l0 : List Int) (r1 : ByteArray) (r2 : Bool) (w : World) (hr0 : Kd.C (Kd.int .i64) w A0 l0.length l0) (hc0 : l0.length ≤ c0) (h : impl_HousesText.f k l0 = some (r1, r2)) (ht : Tabs w) :
    Calls Tryd.prog 16 #[.slice A0 l0.length c0] w fun e w' => e = .returned (.tuple #[.string r1, .bool r2]) ∧ Below w.heap.size w w' := by
  have HT := Aside0.mk ht
  clear ht
  have HR0 := Aside0.mk hr0
  have HC0 := Aside0.mk hc0
  clear hr0 hc0
  have HB := Aside0.mk (Below.refl w.heap.size w)
  have H : ((impl_AreHouses.f l0).bind fun t157 => (if t157 = true then ((impl_numbersText.f k l0 (⟨#[47]⟩ : ByteArray)).bind fun t158 => (some (t158, true))) else (some ((⟨#[]⟩ : ByteArray), false)))) = some (r1, r2) := h
  clear h
  replace H := Option.bind_eq_some_iff.mp H
  obtain ⟨t157, A20, H⟩ := H
  replace H : (if t157 = true then ((impl_numbersText.f k l0 (⟨#[47]⟩ : ByteArray)).bind fun t158 => (some (t158, true))) else (some ((⟨#[]⟩ : ByteArray), false))) = some (r1, r2) := H
  have A2 := Aside0.mk A20
  clear A20
  by_cases c3 : t157 = true
  · subst c3
    have H1 : ((impl_numbersText.f k l0 (⟨#[47]⟩ : ByteArray)).bind fun t158 => (some (t158, true))) = some (r1, r2) := by rw [if_pos rfl] at H; exact H
    clear H
    have H := H1
    clear H1
    replace H := Option.bind_eq_some_iff.mp H
    obtain ⟨t158, A40, H⟩ := H
    replace H : (some (t158, true)) = some (r1, r2) := H
    have A4 := Aside0.mk A40
    clear A40
    simp only [Option.some.injEq, Prod.mk.injEq] at H
    obtain ⟨rfl, rfl⟩ := H
    go_enter Tryd.func16, Tryd.ntmps16
    go_wp2_with (first | ((with_reducible refine gate_callee (f := 26) rfl ?_); refine goesL_ (some 5) rfl rfl Tryd.func26 (by kernel_rfl) rfl #[.slice A0 l0.length c0] rfl (by (try simp only [List.map_toArray, List.map_cons, List.map_nil]); first | done | rfl | (simp only [List.length_drop, List.length_take]; rfl)) ?_; (with_reducible refine (impl_AreHouses.calls _ _ l0 true _ ?side1 ?side2 A2.out).mono ?_); (case side1 => repeat (first | exact HR0.out | (with_reducible refine Kd.C_alloc ?_ _) | (with_reducible refine Kd.C_drewN ?_ _) | (with_reducible refine Kd.C_drew ?_))); (case side2 => exact HC0.out); rintro e w5 ⟨rfl, hb⟩; refine ⟨_, rfl, ?_⟩; have n0_ := Aside0.mk (below_step (by repeat (first | (with_reducible first | exact HB.out | apply below_alloc | apply pw_below_drewN | apply below_drew1) | exact HB.out)) hb); clear HB; have HB := n0_; clear n0_; (try clear hb); (try clear hb2); (try clear hk); (try clear hi)) | ((with_reducible refine gate_callee (f := 23) rfl ?_); refine goesL_ (some 8) rfl rfl Tryd.func23 (by kernel_rfl) rfl #[.slice A0 l0.length c0, .string (⟨#[47]⟩ : ByteArray)] rfl (by (try simp only [List.map_toArray, List.map_cons, List.map_nil]); first | done | rfl | (simp only [List.length_drop, List.length_take]; rfl)) ?_; (with_reducible refine (impl_numbersText.calls k _ _ l0 (⟨#[47]⟩ : ByteArray) t158 _ ?side1 ?side2 A4.out (HT.out.below ?hbP_)).mono ?_); (case hbP_ => exact (by repeat (first | (with_reducible first | exact HB.out | apply below_alloc | apply pw_below_drewN | apply below_drew1) | exact HB.out))); (case side1 => repeat (first | exact HR0.out | exact (Kd.C_below HR0.out HB.out) | (with_reducible refine Kd.C_alloc ?_ _) | (with_reducible refine Kd.C_drewN ?_ _) | (with_reducible refine Kd.C_drew ?_))); (case side2 => exact HC0.out); rintro e w6 ⟨rfl, hb⟩; refine ⟨_, rfl, ?_⟩; have n0_ := Aside0.mk (below_step (by repeat (first | (with_reducible first | exact HB.out | apply below_alloc | apply pw_below_drewN | apply below_drew1) | exact HB.out)) hb); clear HB; have HB := n0_; clear n0_; (try clear hb); (try clear hb2); (try clear hk); (try clear hi)))
    go_ret2
    exact ⟨by first | rfl | (simp [errW_none, errW_some] <;> rfl) | (simp [*, errW_none, errW_some] <;> rfl), by repeat (first | (with_reducible first | exact HB.out | apply below_alloc | apply pw_below_drewN | apply below_drew1) | exact HB.out)⟩
  · replace c3 := Bool.eq_false_iff.mpr c3
    subst c3
    have H1 : (some ((⟨#[]⟩ : ByteArray), false)) = some (r1, r2) := by rw [if_neg (show ¬ (false = true) by decide)] at H; exact H
    clear H
    have H := H1
    clear H1
    simp only [Option.some.injEq, Prod.mk.injEq] at H
    obtain ⟨rfl, rfl⟩ := H
    go_enter Tryd.func16, Tryd.ntmps16
    go_wp2_with (first | ((with_reducible refine gate_callee (f := 26) rfl ?_); refine goesL_ (some 5) rfl rfl Tryd.func26 (by kernel_rfl) rfl #[.slice A0 l0.length c0] rfl (by (try simp only [List.map_toArray, List.map_cons, List.map_nil]); first | done | rfl | (simp only [List.length_drop, List.length_take]; rfl)) ?_; (with_reducible refine (impl_AreHouses.calls _ _ l0 false _ ?side1 ?side2 A2.out).mono ?_); (case side1 => repeat (first | exact HR0.out | (with_reducible refine Kd.C_alloc ?_ _) | (with_reducible refine Kd.C_drewN ?_ _) | (with_reducible refine Kd.C_drew ?_))); (case side2 => exact HC0.out); rintro e w7 ⟨rfl, hb⟩; refine ⟨_, rfl, ?_⟩; have n0_ := Aside0.mk (below_step (by repeat (first | (with_reducible first | exact HB.out | apply below_alloc | apply pw_below_drewN | apply below_drew1) | exact HB.out)) hb); clear HB; have HB := n0_; clear n0_; (try clear hb); (try clear hb2); (try clear hk); (try clear hi)))
    go_ret2
    exact ⟨by first | rfl | (simp [errW_none, errW_some] <;> rfl) | (simp [*, errW_none, errW_some] <;> rfl), by repeat (first | (with_reducible first | exact HB.out | apply below_alloc | apply pw_below_drewN | apply below_drew1) | exact HB.out)⟩

end Go.Proofs.YtaniojfokildiaaDoor.PrintA
