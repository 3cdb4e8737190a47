-- written by this session's own driver (wip/gen.py) with the kit's print and contracts of our own
import Derived.Test.YtoldjcmokcgaiaaPrintA0
import Derived.Test.YtoldjcmokcgaiaaPrintA1
import Derived.Test.YtoldjcmokcgaiaaPrintA4
import Derived.Test.YtoldjcmokcgaiaaPrintA5
namespace Go.Proofs.Ytoldjcmokcgaiaa.PrintA
open Go.RowKit Go.Proofs.YtoldjcmokcgaiaaLib Go.Proofs.YtoldjcmokcgaiaaW.PrintWords Go.Proofs.YtoldjcmokcgaiaaW.PrintLast Go.Proofs.YtoldjcmokcgaiaaW.PrintMore
attribute [local go_sem] max2_int min2_int max_two min_two max_three min_three max_four min_four   -- for this text's walks alone
set_option linter.unusedVariables false
set_option linter.unusedSimpArgs false

/-! ### spec_hoFew: function 18, a contract of our own -/
-- LIB Houses
theorem hoNeeded_go (l : List Int) (hl : l.length ≤ 100) : ∀ (d k : Nat) (o : Int) (i : Nat), 0 ≤ o → o ≤ i → i ≤ l.length → l.length - i = d → d < k → spec_hoNeeded.l0 k o l (l.length : Int) (i : Int) = some (o + hNeed (l.drop i))
  | 0, k, o, i, h0, h9, hi, hd, hk => by
    obtain ⟨k, rfl⟩ : ∃ m, k = m + 1 := ⟨k - 1, by omega⟩
    obtain rfl : i = l.length := by omega
    rw [spec_hoNeeded.l0, if_neg (by omega), List.drop_length]
    simp [hNeed]
  | d + 1, k, o, i, h0, h9, hi, hd, hk => by
    obtain ⟨k, rfl⟩ : ∃ m, k = m + 1 := ⟨k - 1, by omega⟩
    have hlt : i < l.length := by omega
    have hrd : rd l (i : Int) = l[i] := by
      unfold rd
      rw [Int.toNat_natCast, List.getD_eq_getElem?_getD, List.getElem?_eq_getElem hlt]; rfl
    have e2 : wrap64 ((i : Int) + 1) = ((i + 1 : Nat) : Int) := by unfold wrap64; omega
    rw [spec_hoNeeded.l0, if_pos (by omega), if_pos (by omega), if_pos (by omega), hrd, e2, List.drop_eq_getElem_cons hlt, hNeed]
    by_cases hx : l[i] > 0
    · have e1 : wrap64 (o + 1) = o + 1 := by unfold wrap64; omega
      rw [if_pos hx, if_pos hx, e1, hoNeeded_go l hl d k (o + 1) (i + 1) (by clear e1 e2; omega) (by clear e1 e2; omega) (by clear e1 e2; omega) (by clear e1 e2; omega) (by clear e1 e2; omega)]
      congr 1
      clear e1 e2
      omega
    · rw [if_neg hx, if_neg hx, hoNeeded_go l hl d k o (i + 1) h0 (by clear e2; omega) (by clear e2; omega) (by clear e2; omega) (by clear e2; omega)]
      congr 1
      clear e2
      omega
theorem hoNeeded_is (l : List Int) (h3 : l.length ≤ 3) : spec_hoNeeded.f 10 l = some (hNeed l) := by
  unfold spec_hoNeeded.f
  have := hoNeeded_go l (by omega) l.length 10 0 0 (Int.le_refl _) (by simp) (Nat.zero_le _) (by omega) (by omega)
  simpa using this
theorem hoPlace_step (k : Nat) (l : List Int) (hl : l.length ≤ 100) (hk : hOk l) (n : Int) (h0 : 0 ≤ n) (h9 : n ≤ 10000) (i : Nat) (hi : i < 3) : spec_hoPlace.l0 (k + 1) l n (i : Int) = spec_hoPlace.l0 k l (n * 9 + l.getD i 0) ((i + 1 : Nat) : Int) := by
  have hg := hOk_get hk i
  have e1 : wrap64 (n * 9) = n * 9 := by unfold wrap64; omega
  have e2 : wrap64 (n * 9 + l.getD i 0) = n * 9 + l.getD i 0 := by clear e1; unfold wrap64; omega
  have e3 : wrap64 ((i : Int) + 1) = ((i + 1 : Nat) : Int) := by clear e1 e2; unfold wrap64; omega
  have hrd : rd l (i : Int) = l.getD i 0 := by unfold rd; rw [Int.toNat_natCast]
  rw [spec_hoPlace.l0, if_pos (by clear e1 e2 e3; omega), hrd, e1, e2, e3]
  by_cases hlt : i < l.length
  · rw [if_pos (by clear e1 e2 e3; omega), if_pos (by clear e1 e2 e3; omega)]
  · have hz : l.getD i 0 = 0 := by rw [List.getD_eq_getElem?_getD, List.getElem?_eq_none (by omega)]; rfl
    rw [if_neg (by clear e1 e2 e3; omega)]
    rw [hz] at e2
    rw [hz, e2]
theorem hoPlace_is (e : Int) (l : List Int) (hk : hOk l) (h3 : l.length ≤ 3) (h0 : 0 ≤ e) (h6 : e ≤ 6) : spec_hoPlace.f 10 e l = some ((hPl e l : Nat) : Int) := by
  have g0 := hOk_get hk 0
  have g1 := hOk_get hk 1
  have g2 := hOk_get hk 2
  rw [hPl_cast hk h0 h6]
  unfold spec_hoPlace.f
  have s0 := hoPlace_step 9 l (by omega) hk e h0 (by omega) 0 (by omega)
  have s1 := hoPlace_step 8 l (by omega) hk (e * 9 + l.getD 0 0) (by omega) (by omega) 1 (by omega)
  have s2 := hoPlace_step 7 l (by omega) hk ((e * 9 + l.getD 0 0) * 9 + l.getD 1 0) (by omega) (by omega) 2 (by omega)
  refine (s0.trans (s1.trans (s2.trans ?_)))
  rw [spec_hoPlace.l0, if_neg (by omega)]
theorem hoWith_is (l : List Int) (hl : l.length ≤ 100) (i : Nat) (hi : i < l.length) (x : Int) : spec_hoWith.f l (i : Int) x = some (l.set i x) := by
  unfold spec_hoWith.f
  have : spec_l1Own.f l = some l := by
    unfold spec_l1Own.f
    simp
    omega
  rw [this, Option.bind_some, if_pos (by omega), if_pos (by omega), Int.toNat_natCast]
theorem drawn_below {w w' : World} (h : Drawn0 w w') : Below w.heap.size w w' := by
  obtain ⟨q, rfl⟩ := h
  exact pw_below_drewN (Below.refl _ _) q
/-- A row that was made behind a block: it stays while that block alone is written. -/
theorem row_far {w w3 : World} {v : Value} {l1 : List Int} {n g : Nat} (hr : Kd.R (Kd.int .i64) 3 w3 w.heap.size (fun _ => True) v l1) (hg : g < w.heap.size) (hn : l1.length = n) :
    ∃ A c, v = .slice A n c ∧ n ≤ c ∧ ∀ W', Kept w3 W' (fun k_ => k_ = g) → Kd.C (Kd.int .i64) W' A n l1 := by
  obtain ⟨A, c, rfl, hc, _⟩ := Kd.R_reads hr
  rw [hn] at hr hc
  refine ⟨A, c, by rw [hn], hc, ?_⟩
  exact Kd.C_kept_own (S := fun k_ => k_ = g) (r_btw hr (Nat.le_refl _)) (fun k_ h1_ h2_ => by have := h1_.1; omega)
theorem list_cells {W : World} {S : Nat → Prop} {A : Option Addr} {l : List Int} {n : Nat} (hn : l.length = n) (h1 : 1 ≤ n) (hL : ∀ W', Kept W W' S → Kd.C (Kd.int .i64) W' A n l) :
    ∃ ad, A = some ad ∧ ∀ W', Kept W W' S → ∀ i : Nat, i < n → W'.cell? (ad.add i) = some (.int .i64 (l.getD i 0)) := by
  obtain ⟨ad, hA, _⟩ := Kd.at_int (hL W (Kept.refl _ _)) 0 (by omega) (by omega)
  refine ⟨ad, hA, fun W' hk i hi => ?_⟩
  obtain ⟨ad', hA', hx⟩ := Kd.at_int (hL W' hk) (i : Int) (by omega) (by omega)
  rw [hA] at hA'
  obtain rfl := Option.some.inj hA'
  unfold rd at hx
  rw [Int.toNat_natCast] at hx
  exact hx
def HfC (m : Nat) : Prop := ∀ (N : Nat) (e : Int) (l : List Int) (n g cap : Nat) (t : List Int) (A : Option Addr) (c : Nat) (w0 W : World), N = 5103 → l.length = n → 1 ≤ n → n ≤ 3 → hOk l → 0 ≤ e → e ≤ 6 → hSum l < m → HTab t → Below w0.heap.size w0 W → Kd.R (Kd.int .i64) 3 W w0.heap.size (fun k_ => k_ = g) (.slice (some ⟨g, 0, none⟩) N cap) t → n ≤ c → (∀ W', Kept W W' (fun k_ => k_ = g) → Kd.C (Kd.int .i64) W' A n l) →
    Calls Try.prog 18 #[.slice (some ⟨g, 0, none⟩) N cap, .int .i64 e, .slice A n c] W fun e' w' => ∃ t', e' = .returned (.int .i64 (hS e l)) ∧ HTab t' ∧ Kd.R (Kd.int .i64) 3 w' w0.heap.size (fun k_ => k_ = g) (.slice (some ⟨g, 0, none⟩) N cap) t' ∧ Below w0.heap.size w0 w' ∧ Kept W w' (fun k_ => k_ = g)
set_option maxHeartbeats 8000000 in
set_option maxRecDepth 100000 in
theorem hoDrop_of (m : Nat) (hP : HfC m) (N : Nat) (hN : N = 5103) (e : Int) (l : List Int) (n : Nat) (hn : l.length = n) (h1 : 1 ≤ n) (h3 : n ≤ 3) (hk : hOk l) (h0 : 1 ≤ e) (h6 : e ≤ 6) (hm : hSum l ≤ m) (i : Nat) (f : Int) (ht : (i, f) ∈ hTests l) (g cap : Nat) (t : List Int) (A : Option Addr) (c : Nat) (w0 W : World) (hT : HTab t) (hB : Below w0.heap.size w0 W) (hR : Kd.R (Kd.int .i64) 3 W w0.heap.size (fun k_ => k_ = g) (.slice (some ⟨g, 0, none⟩) N cap) t) (hc : n ≤ c) (hL : ∀ W', Kept W W' (fun k_ => k_ = g) → Kd.C (Kd.int .i64) W' A n l) :
    Calls Try.prog 33 #[.slice (some ⟨g, 0, none⟩) N cap, .int .i64 e, .slice A n c, .int .i64 i, .int .i64 f] W fun e' w' => ∃ t', e' = .returned (.int .i64 (hSW e l (i, f))) ∧ HTab t' ∧ Kd.R (Kd.int .i64) 3 w' w0.heap.size (fun k_ => k_ = g) (.slice (some ⟨g, 0, none⟩) N cap) t' ∧ Below w0.heap.size w0 w' ∧ Kept W w' (fun k_ => k_ = g) := by
  have o1 := hBr_ok hk _ ht
  have o2 := hWh_ok hk _ ht
  obtain ⟨ti, tf1, tf2⟩ := (hTests_mem l _).1 ht
  simp only at ti tf1 tf2
  have hx := hOk_get hk i
  have hv : hSW e l (i, f) = min 1000 (1 + max (hS (e - 1) (hBr l (i, f))) (hS e (hWh l (i, f)))) := rfl
  have r1 := hS_range (e - 1) (hBr l (i, f))
  have r2 := hS_range e (hWh l (i, f))
  have l1 : (hBr l (i, f)).length = n := by unfold hBr; rw [List.length_set]; exact hn
  have l2 : (hWh l (i, f)).length = n := by unfold hWh; rw [List.length_set]; exact hn
  have HF1 : Aside0 (∀ (t : List Int) (A : Option Addr) (c : Nat) (W : World), HTab t → Below w0.heap.size w0 W → Kd.R (Kd.int .i64) 3 W w0.heap.size (fun k_ => k_ = g) (.slice (some ⟨g, 0, none⟩) N cap) t → n ≤ c → (∀ W', Kept W W' (fun k_ => k_ = g) → Kd.C (Kd.int .i64) W' A n (hBr l (i, f))) → Calls Try.prog 18 #[.slice (some ⟨g, 0, none⟩) N cap, .int .i64 (e - 1), .slice A n c] W fun e' w' => ∃ t', e' = .returned (.int .i64 (hS (e - 1) (hBr l (i, f)))) ∧ HTab t' ∧ Kd.R (Kd.int .i64) 3 w' w0.heap.size (fun k_ => k_ = g) (.slice (some ⟨g, 0, none⟩) N cap) t' ∧ Below w0.heap.size w0 w' ∧ Kept W w' (fun k_ => k_ = g)) := ⟨fun t A c W a1 a2 a3 a4 a5 => hP N (e - 1) _ n g cap t A c w0 W hN l1 h1 h3 o1.1 (by omega) (by omega) (by omega) a1 a2 a3 a4 a5⟩
  have HF2 : Aside0 (∀ (t : List Int) (A : Option Addr) (c : Nat) (W : World), HTab t → Below w0.heap.size w0 W → Kd.R (Kd.int .i64) 3 W w0.heap.size (fun k_ => k_ = g) (.slice (some ⟨g, 0, none⟩) N cap) t → n ≤ c → (∀ W', Kept W W' (fun k_ => k_ = g) → Kd.C (Kd.int .i64) W' A n (hWh l (i, f))) → Calls Try.prog 18 #[.slice (some ⟨g, 0, none⟩) N cap, .int .i64 e, .slice A n c] W fun e' w' => ∃ t', e' = .returned (.int .i64 (hS e (hWh l (i, f)))) ∧ HTab t' ∧ Kd.R (Kd.int .i64) 3 w' w0.heap.size (fun k_ => k_ = g) (.slice (some ⟨g, 0, none⟩) N cap) t' ∧ Below w0.heap.size w0 w' ∧ Kept W w' (fun k_ => k_ = g)) := ⟨fun t A c W a1 a2 a3 a4 a5 => hP N e _ n g cap t A c w0 W hN l2 h1 h3 o2.1 (by omega) (by omega) (by omega) a1 a2 a3 a4 a5⟩
  obtain ⟨ad, rfl, hcl⟩ := list_cells hn h1 hL
  have HX : Aside0 (∀ W', Kept W W' (fun k_ => k_ = g) → W'.cell? (ad.add i) = some (.int .i64 (l.getD i 0))) := ⟨fun W' hk' => hcl W' hk' i (by omega)⟩
  have HL := Aside0.mk hL
  have HW1 : Aside0 (∀ W', Kept W W' (fun k_ => k_ = g) → Calls Try.prog 42 #[.slice (some ad) n c, .int .i64 i, .int .i64 (f - 1)] W' fun e w' => ∃ v, e = .returned v ∧ Kd.R (Kd.int .i64) 3 w' W'.heap.size (fun _ => True) v (hBr l (i, f)) ∧ Below W'.heap.size W' w') := ⟨fun W' hk' => by
    have h := spec_hoWith.calls (some ad) c l (i : Int) (f - 1) _ W' (by rw [hn]; exact HL.out W' hk') (by omega) (hoWith_is l (by omega) i ti (f - 1))
    rw [hn] at h
    exact h⟩
  have HW2 : Aside0 (∀ W', Kept W W' (fun k_ => k_ = g) → Calls Try.prog 42 #[.slice (some ad) n c, .int .i64 i, .int .i64 (l.getD i 0 - f)] W' fun e w' => ∃ v, e = .returned v ∧ Kd.R (Kd.int .i64) 3 w' W'.heap.size (fun _ => True) v (hWh l (i, f)) ∧ Below W'.heap.size W' w') := ⟨fun W' hk' => by
    have h := spec_hoWith.calls (some ad) c l (i : Int) (l.getD i 0 - f) _ W' (by rw [hn]; exact HL.out W' hk') (by omega) (hoWith_is l (by omega) i ti (l.getD i 0 - f))
    rw [hn] at h
    exact h⟩
  have hti : (i : Int) < (n : Int) := by omega
  rw [hv]
  clear hv hP hm ht hk hN hcl o1 o2 ti hL
  generalize hS (e - 1) (hBr l (i, f)) = v1 at HF1 r1 ⊢
  generalize hS e (hWh l (i, f)) = v2 at HF2 r2 ⊢
  generalize hBr l (i, f) = b1 at HF1 HW1 l1
  generalize hWh l (i, f) = b2 at HF2 HW2 l2
  generalize l.getD i 0 = x at HX HW2 hx tf2
  have HL1N := Aside0.mk l1
  have HL2N := Aside0.mk l2
  have HMX := Aside0.mk (fun (W : World) => spec_l1Most.calls0 v1 v2 (max v1 v2) W (spec_l1Most_is _ _))
  have hmx : 0 ≤ max v1 v2 ∧ max v1 v2 ≤ 1000 := by omega
  generalize max v1 v2 = mx at HMX hmx ⊢
  have HMN := Aside0.mk (fun (W : World) => spec_l1Least.calls0 1000 (1 + mx) (min 1000 (1 + mx)) W (spec_l1Least_is _ _))
  have hw1 : IntKind.i64.wrap (1 + mx) = 1 + mx := by rw [i64_w]; unfold wrap64; omega
  have hw2 : IntKind.i64.wrap (e - 1) = e - 1 := by clear hw1; rw [i64_w]; unfold wrap64; omega
  have hw3 : IntKind.i64.wrap (f - 1) = f - 1 := by clear hw1 hw2; rw [i64_w]; unfold wrap64; omega
  have hw4 : IntKind.i64.wrap (x - f) = x - f := by clear hw1 hw2 hw3; rw [i64_w]; unfold wrap64; omega
  generalize min 1000 (1 + mx) = res at HMN ⊢
  have HT := Aside0.mk hT
  have HB := Aside0.mk hB
  have HR := Aside0.mk hR
  have HKp := Aside0.mk (Kept.refl W (fun k_ => k_ = g))
  clear hT hB hR r1 r2 hn l1 l2 HL
  go_enter Try.func33, Try.ntmps33
  go_wp2_with (first
    | (go_at_call 42; with_reducible refine (HW1.out _ HKp.out).mono ?_; rintro e_ w3 ⟨v_, rfl, hr, hb⟩; obtain ⟨A1, c1, rfl, hc1, hl1⟩ := row_far hr (Kd.R_lt HR.out g (by simp [Value.ownBlock])) HL1N.out; have HL1 := Aside0.mk hl1; have HC1 := Aside0.mk hc1; clear hl1 hc1 hr; have n0_ := Aside0.mk (below_step HB.out hb); have n1_ := Aside0.mk (Kd.R_below HR.out hb); have n2_ := Aside0.mk (HKp.out.below hb); clear HB HR HKp; have HB := n0_; have HR := n1_; have HKp := n2_; clear n0_ n1_ n2_ hb)
    | (go_at_call 42; with_reducible refine (HW2.out _ HKp.out).mono ?_; rintro e_ w3 ⟨v_, rfl, hr, hb⟩; obtain ⟨A1, c1, rfl, hc1, hl1⟩ := row_far hr (Kd.R_lt HR.out g (by simp [Value.ownBlock])) HL2N.out; have HL2 := Aside0.mk hl1; have HC2 := Aside0.mk hc1; clear hl1 hc1 hr; have n0_ := Aside0.mk (below_step HB.out hb); have n1_ := Aside0.mk (Kd.R_below HR.out hb); have n2_ := Aside0.mk (HKp.out.below hb); clear HB HR HKp; have HB := n0_; have HR := n1_; have HKp := n2_; clear n0_ n1_ n2_ hb)
    | (go_at_call 18; with_reducible refine (HF1.out _ _ _ _ HT.out HB.out HR.out HC1.out HL1.out).mono ?_; rintro e_ w4 ⟨t', rfl, hT, hr, hb, hk⟩; have n2_ := Aside0.mk (HKp.out.then_ hk (fun k_ h_ => Or.inl h_)); clear HB HR HKp HT; have HB := Aside0.mk hb; have HR := Aside0.mk hr; have HT := Aside0.mk hT; have HKp := n2_; clear n2_ hb hr hT hk; have hx1 := HX.out _ HKp.out)
    | (go_at_call 18; with_reducible refine (HF2.out _ _ _ _ HT.out HB.out HR.out HC2.out HL2.out).mono ?_; rintro e_ w4 ⟨t', rfl, hT, hr, hb, hk⟩; have n2_ := Aside0.mk (HKp.out.then_ hk (fun k_ h_ => Or.inl h_)); clear HB HR HKp HT; have HB := Aside0.mk hb; have HR := Aside0.mk hr; have HT := Aside0.mk hT; have HKp := n2_; clear n2_ hb hr hT hk)
    | (go_at_call 43; with_reducible refine (HMX.out _).mono ?_; rintro e_ w_ ⟨rfl, rfl⟩)
    | (go_at_call 32; with_reducible refine (HMN.out _).mono ?_; rintro e_ w_ ⟨rfl, rfl⟩))
  go_ret
  exact ⟨_, rfl, HT.out, HR.out, HB.out, HKp.out⟩
theorem hFrom_take : ∀ (l : List Int) (s i : Nat), i < l.length → hFrom s (l.take (i + 1)) = hFrom s (l.take i) ++ hRow (s + i) (l.getD i 0)
  | [], s, i, h => by simp at h
  | x :: r, s, 0, _ => by
    simp [hFrom]
  | x :: r, s, i + 1, h => by
    have := hFrom_take r (s + 1) i (by simpa using h)
    rw [List.take_succ_cons, List.take_succ_cons, hFrom, hFrom, this, List.append_assoc, List.getD_cons_succ, show s + 1 + i = s + (i + 1) by omega]
theorem hDrop_in (l : List Int) (i j : Nat) (hi : i < l.length) (hj : (j : Int) < l.getD i 0) : (i, 1 + (j : Int)) ∈ hTests l := (hTests_mem l _).2 ⟨hi, by show 1 ≤ 1 + (j : Int); omega, by show 1 + (j : Int) ≤ l.getD i 0; omega⟩
set_option maxHeartbeats 8000000 in
set_option maxRecDepth 100000 in
theorem hoFew_step (m : Nat) (hP : HfC m) : HfC (m + 1) := by
  intro N e l n g cap t A c w0 W hN hn h1 h3 hk h0 h6 hm hT hB hR hc hL
  have HNN := Aside0.mk hN
  have HLN := Aside0.mk hn
  have HOK := Aside0.mk hk
  have HMU : Aside0 (hSum l ≤ m) := ⟨by omega⟩
  have HND : Aside0 (∀ W', Kept W W' (fun k_ => k_ = g) → Calls Try.prog 25 #[.slice A n c] W' fun e w' => e = .returned (.int .i64 (hNeed l)) ∧ Below W'.heap.size W' w') := ⟨fun W' hk' => by
    have h := spec_hoNeeded.calls 10 A c l _ W' (by rw [hn]; exact hL W' hk') (by omega) (hoNeeded_is l (by omega))
    rw [hn] at h
    refine h.mono ?_
    rintro e_ w_ ⟨rfl, hd⟩
    exact ⟨rfl, drawn_below hd⟩⟩
  have HPC : Aside0 (∀ W', Kept W W' (fun k_ => k_ = g) → Calls Try.prog 31 #[.int .i64 e, .slice A n c] W' fun e_ w' => e_ = .returned (.int .i64 ((hPl e l : Nat) : Int)) ∧ Below W'.heap.size W' w') := ⟨fun W' hk' => by
    have h := spec_hoPlace.calls 10 e A c l _ W' (by rw [hn]; exact hL W' hk') (by omega) (hoPlace_is e l hk (by omega) h0 h6)
    rw [hn] at h
    refine h.mono ?_
    rintro e_ w_ ⟨rfl, hd⟩
    exact ⟨rfl, drawn_below hd⟩⟩
  have hval := hS_eq e l hk
  have hnd := hNeed_nonneg l
  have hpl := hPl_lt hk h0 h6
  have HKT1 : Aside0 (t.getD (hPl e l) 0 = -1 ∨ t.getD (hPl e l) 0 = hS e l) := ⟨hT.2 e l hk (by omega) (by omega) h0 h6⟩
  have HPUT : Aside0 (∀ tb, HTab tb → HTab (tb.set (hPl e l) (hS e l))) := ⟨fun tb h => HTab.put h hk (by omega) (by omega) h0 h6⟩
  generalize hPl e l = p at HPC HKT1 HPUT hpl
  have hz1 : (p : Int) < (N : Int) := by omega
  have HT := Aside0.mk hT
  have HB := Aside0.mk hB
  have HR := Aside0.mk hR
  have HL := Aside0.mk hL
  have HC := Aside0.mk hc
  have HKp := Aside0.mk (Kept.refl W (fun k_ => k_ = g))
  obtain ⟨nd, hndq⟩ : ∃ nd, hNeed l = nd := ⟨_, rfl⟩
  rw [hndq] at HND hval hnd
  clear hT hB hR hL hc hndq hk hpl hN hm
  by_cases hz : nd = 0
  · rw [if_pos hz] at hval
    have HV := Aside0.mk hval
    have hq1 : (nd == 0) = true := by rw [beq_iff_eq]; exact hz
    clear hval hz HPC HKT1 HPUT
    go_enter Try.func18, Try.ntmps18
    go_wp2_with (go_at_call 25; with_reducible refine (HND.out _ HKp.out).mono ?_; rintro e_ w3 ⟨rfl, hb⟩; have n0_ := Aside0.mk (below_step HB.out hb); have n1_ := Aside0.mk (Kd.R_below HR.out hb); have n2_ := Aside0.mk (HKp.out.below hb); clear HB HR HKp; have HB := n0_; have HR := n1_; have HKp := n2_; clear n0_ n1_ n2_ hb)
    go_ret
    exact ⟨_, (by rw [HV.out]; rfl), HT.out, HR.out, HB.out, HKp.out⟩
  · rw [if_neg hz] at hval
    have hq1 : (nd == 0) = false := by rw [beq_eq_false_iff_ne]; exact hz
    by_cases hlt : e < nd
    · rw [if_pos hlt] at hval
      have HV := Aside0.mk hval
      clear hval hz HPC HKT1 HPUT
      go_enter Try.func18, Try.ntmps18
      go_wp2_with (go_at_call 25; with_reducible refine (HND.out _ HKp.out).mono ?_; rintro e_ w3 ⟨rfl, hb⟩; have n0_ := Aside0.mk (below_step HB.out hb); have n1_ := Aside0.mk (Kd.R_below HR.out hb); have n2_ := Aside0.mk (HKp.out.below hb); clear HB HR HKp; have HB := n0_; have HR := n1_; have HKp := n2_; clear n0_ n1_ n2_ hb)
      go_ret
      exact ⟨_, (by rw [HV.out]; rfl), HT.out, HR.out, HB.out, HKp.out⟩
    · rw [if_neg hlt] at hval
      have HV := Aside0.mk hval
      have he1 : 1 ≤ e := by omega
      obtain ⟨x, hxd⟩ : ∃ x, x = t.getD p 0 := ⟨_, rfl⟩
      rw [← hxd] at HKT1
      have HCELL : Aside0 (∀ Wq, Kd.R (Kd.int .i64) 3 Wq w0.heap.size (fun k_ => k_ = g) (.slice (some ⟨g, 0, none⟩) N cap) t → Wq.cell? ⟨g, p, none⟩ = some (.int .i64 x) ∧ Wq.frozen? ⟨g, p, none⟩ = false) := ⟨fun Wq h => by
        have h1 := Kd.R_celln 0 h (p : Int) (by omega) (by omega)
        rw [Int.toNat_natCast] at h1
        rw [hxd]
        simpa [rdOf] using h1⟩
      obtain ⟨ad, rfl, hcl⟩ := list_cells HLN.out h1 HL.out
      have HX := Aside0.mk hcl
      clear hval hz hxd hcl
      by_cases hx1 : x = -1
      · have hd1 : decide (0 ≤ x) = false := decide_eq_false (by omega)
        have hd2 : (x ≥ 0) = False := by simp; omega
        go_enter Try.func18, Try.ntmps18
        go_wp2_with (first
          | (go_at_call 25; with_reducible refine (HND.out _ HKp.out).mono ?_; rintro e_ w3 ⟨rfl, hb⟩; have n0_ := Aside0.mk (below_step HB.out hb); have n1_ := Aside0.mk (Kd.R_below HR.out hb); have n2_ := Aside0.mk (HKp.out.below hb); clear HB HR HKp; have HB := n0_; have HR := n1_; have HKp := n2_; clear n0_ n1_ n2_ hb)
          | (go_at_call 31; with_reducible refine (HPC.out _ HKp.out).mono ?_; rintro e_ w3 ⟨rfl, hb⟩; have n0_ := Aside0.mk (below_step HB.out hb); have n1_ := Aside0.mk (Kd.R_below HR.out hb); have n2_ := Aside0.mk (HKp.out.below hb); clear HB HR HKp; have HB := n0_; have HR := n1_; have HKp := n2_; clear n0_ n1_ n2_ hb; obtain ⟨hx, hf⟩ := HCELL.out _ HR.out; clear hf))
        clear hx hd1 hd2 hx1 HND HPC HKT1
        go_loopg [9, 33] n (fun gg v9 v33 wr => ∃ (i : Nat) (o : Int) (tb : List Int), v33 = .int .i64 i ∧ v9 = .int .i64 o ∧ i ≤ n ∧ n - i ≤ gg ∧ 0 ≤ o ∧ o ≤ 1000 ∧ Aside0 (o = hSFold e l (hFrom 0 (l.take i)) 1000) ∧ Aside0 (HTab tb) ∧ Aside0 (Kd.R (Kd.int .i64) 3 wr w0.heap.size (fun k_ => k_ = g) (.slice (some ⟨g, 0, none⟩) N cap) tb) ∧ Aside0 (Below w0.heap.size w0 wr) ∧ Aside0 (Kept W wr (fun k_ => k_ = g)))
        case atStart => exact ⟨0, 1000, t, rfl, rfl, Nat.zero_le _, Nat.le_refl _, by omega, by omega, ⟨rfl⟩, HT, HR, HB, HKp⟩
        case round =>
          clear HT HR HB HKp
          obtain ⟨i, o, tb, rfl, rfl, hi, hgg, ho0, ho1, HO, HT, HR, HB, HKp⟩ := hrel
          by_cases hin : i < n
          · have hinz : (i : Int) < (n : Int) := by omega
            have hxr := hOk_get HOK.out i
            have HXI : Aside0 (∀ W', Kept W W' (fun k_ => k_ = g) → W'.cell? (ad.add i) = some (.int .i64 (l.getD i 0))) := ⟨fun W' hk' => HX.out W' hk' i hin⟩
            have HTK : Aside0 (hSFold e l (hRow i (l.getD i 0)) o = hSFold e l (hFrom 0 (l.take (i + 1))) 1000) := ⟨by
              have h9 := hFrom_take l 0 i (by have := HLN.out; omega)
              rw [Nat.zero_add] at h9
              rw [h9, hSFold_append, ← HO.out]⟩
            have HDR : Aside0 (∀ (j : Nat) (tb : List Int) (W1 : World), (j : Int) < l.getD i 0 → HTab tb → Below w0.heap.size w0 W1 → Kd.R (Kd.int .i64) 3 W1 w0.heap.size (fun k_ => k_ = g) (.slice (some ⟨g, 0, none⟩) N cap) tb → Kept W W1 (fun k_ => k_ = g) → Calls Try.prog 33 #[.slice (some ⟨g, 0, none⟩) N cap, .int .i64 e, .slice (some ad) n c, .int .i64 i, .int .i64 (1 + (j : Int))] W1 fun e' w' => ∃ t', e' = .returned (.int .i64 (hSW e l (i, 1 + (j : Int)))) ∧ HTab t' ∧ Kd.R (Kd.int .i64) 3 w' w0.heap.size (fun k_ => k_ = g) (.slice (some ⟨g, 0, none⟩) N cap) t' ∧ Below w0.heap.size w0 w' ∧ Kept W1 w' (fun k_ => k_ = g)) :=
              ⟨fun j tb W1 hj a1 a2 a3 a4 => hoDrop_of m hP N HNN.out e l n HLN.out h1 h3 HOK.out he1 h6 HMU.out i (1 + (j : Int)) (hDrop_in l i j (by have := HLN.out; omega) hj) g cap tb (some ad) c w0 W1 a1 a2 a3 HC.out (fun W' hk' => HL.out W' (a4.then_ hk' (fun k_ h_ => Or.inl h_)))⟩
            have HWR := Aside0.mk (fun j => hSW_range e l (i, j))
            obtain ⟨xn, hxn⟩ : ∃ xn : Nat, l.getD i 0 = (xn : Int) := ⟨(l.getD i 0).toNat, by omega⟩
            rw [hxn] at hxr HXI HTK HDR
            clear hxn HO
            go_wp2
            go_loopg [9, 11] xn (fun gg v9 v11 wr => ∃ (j : Nat) (o2 : Int) (tb : List Int), v11 = .int .i64 (1 + (j : Int)) ∧ v9 = .int .i64 o2 ∧ j ≤ xn ∧ xn - j ≤ gg ∧ 0 ≤ o2 ∧ o2 ≤ 1000 ∧ Aside0 (o2 = hSFold e l (hRow i (j : Int)) o) ∧ Aside0 (HTab tb) ∧ Aside0 (Kd.R (Kd.int .i64) 3 wr w0.heap.size (fun k_ => k_ = g) (.slice (some ⟨g, 0, none⟩) N cap) tb) ∧ Aside0 (Below w0.heap.size w0 wr) ∧ Aside0 (Kept W wr (fun k_ => k_ = g)))
            case atStart => exact ⟨0, o, tb, by simp, rfl, Nat.zero_le _, Nat.le_refl _, ho0, ho1, ⟨rfl⟩, HT, HR, HB, HKp⟩
            case round =>
              clear HT HR HB HKp
              obtain ⟨j, o2, tb, rfl, rfl, hj, hgg2, hp0, hp1, HO2, HT, HR, HB, HKp⟩ := hrel
              have hx := HXI.out _ HKp.out
              by_cases hjn : j < xn
              · have hz2 : 1 + (j : Int) ≤ (xn : Int) := by omega
                have hyr := HWR.out (1 + (j : Int))
                have HN : Aside0 (min o2 (hSW e l (i, 1 + (j : Int))) = hSFold e l (hRow i ((j + 1 : Nat) : Int)) o) := ⟨by
                  rw [hRow_succ, hSFold_append, ← HO2.out]; rfl⟩
                have HWI : Aside0 (∀ (tb : List Int) (W1 : World), HTab tb → Below w0.heap.size w0 W1 → Kd.R (Kd.int .i64) 3 W1 w0.heap.size (fun k_ => k_ = g) (.slice (some ⟨g, 0, none⟩) N cap) tb → Kept W W1 (fun k_ => k_ = g) → Calls Try.prog 33 #[.slice (some ⟨g, 0, none⟩) N cap, .int .i64 e, .slice (some ad) n c, .int .i64 i, .int .i64 (1 + (j : Int))] W1 fun e' w' => ∃ t', e' = .returned (.int .i64 (hSW e l (i, 1 + (j : Int)))) ∧ HTab t' ∧ Kd.R (Kd.int .i64) 3 w' w0.heap.size (fun k_ => k_ = g) (.slice (some ⟨g, 0, none⟩) N cap) t' ∧ Below w0.heap.size w0 w' ∧ Kept W1 w' (fun k_ => k_ = g)) := ⟨fun tb W1 a1 a2 a3 a4 => HDR.out j tb W1 (by omega) a1 a2 a3 a4⟩
                generalize hSW e l (i, 1 + (j : Int)) = y at hyr HN HWI
                have HMN := Aside0.mk (fun (W : World) => spec_l1Least.calls0 o2 y (min o2 y) W (spec_l1Least_is _ _))
                have hm2 : 0 ≤ min o2 y ∧ min o2 y ≤ 1000 := by omega
                generalize min o2 y = o3 at HN HMN hm2
                have hw1 : IntKind.i64.wrap (1 + (j : Int) + 1) = 1 + (j : Int) + 1 := by rw [i64_w]; unfold wrap64; omega
                clear HO2
                go_wp2_with (first
                  | (go_at_call 33; with_reducible refine (HWI.out _ _ HT.out HB.out HR.out HKp.out).mono ?_; rintro e_ w3 ⟨t', rfl, hT, hr, hb, hk⟩; have n2_ := Aside0.mk (HKp.out.then_ hk (fun k_ h_ => Or.inl h_)); clear HB HR HKp HT; have HB := Aside0.mk hb; have HR := Aside0.mk hr; have HT := Aside0.mk hT; have HKp := n2_; clear n2_ hb hr hT hk)
                  | (go_at_call 32; with_reducible refine (HMN.out _).mono ?_; rintro e_ w_ ⟨rfl, rfl⟩))
                go_roundg (xn - (j + 1))
                case measure => omega
                case rel => exact ⟨j + 1, o3, _, by rw [show 1 + ((j + 1 : Nat) : Int) = 1 + (j : Int) + 1 by clear hw1; omega], rfl, by clear hw1; omega, by clear hw1; omega, hm2.1, hm2.2, HN, HT, HR, HB, HKp⟩
              · have hz2 : ¬ 1 + (j : Int) ≤ (xn : Int) := by omega
                obtain rfl : j = xn := by omega
                have HN : Aside0 (o2 = hSFold e l (hFrom 0 (l.take (i + 1))) 1000) := ⟨by rw [HO2.out, HTK.out]⟩
                have hw1 : IntKind.i64.wrap ((i : Int) + 1) = (i : Int) + 1 := by rw [i64_w]; unfold wrap64; omega
                clear HO2 HTK HDR HWR HXI
                go_wp2
                go_roundg (n - (i + 1))
                case measure => omega
                case rel => exact ⟨i + 1, o2, tb, by go_num, rfl, by clear hw1; omega, by clear hw1; omega, hp0, hp1, HN, HT, HR, HB, HKp⟩
          · have hinz : ¬ (i : Int) < (n : Int) := by omega
            obtain rfl : i = n := by omega
            have hres : o = hS e l := by
              have h9 : l.take i = l := by rw [← HLN.out]; exact List.take_length
              rw [HO.out, h9, HV.out]; rfl
            obtain ⟨hx, hf⟩ := Kd.R_celln 0 HR.out (p : Int) (by omega) (by omega)
            have HG := Aside0.mk (Kd.R_base HR.out g (by simp [Value.ownBlock]))
            have hput := Kd.R_putn HR.out (p : Int) o
            have hkt := HPUT.out _ HT.out
            rw [Int.toNat_natCast] at hx hf hput
            rw [← hres] at hkt
            have HPT := Aside0.mk hput
            have HKT2 := Aside0.mk hkt
            have HRES := Aside0.mk hres
            clear hput hkt hres HO HPUT
            go_wp2
            go_ret
            first
              | exact ⟨(by rw [HRES.out]; rfl), tb.set p o, HKT2.out, HPT.out, below_set HB.out HG.out, HKp.out.setCell (Or.inl rfl) _⟩
              | exact ⟨tb.set p o, (by rw [HRES.out]; rfl), HKT2.out, HPT.out, below_set HB.out HG.out, HKp.out.setCell (Or.inl rfl) _⟩
      · have hxs : x = hS e l := HKT1.out.resolve_left hx1
        have hxr := hS_range e l
        have hd1 : decide (0 ≤ x) = true := decide_eq_true (by omega)
        have hd2 : (x ≥ 0) = True := by simp; omega
        have HRES := Aside0.mk hxs
        clear hxs hxr hx1 HKT1 HPUT
        go_enter Try.func18, Try.ntmps18
        go_wp2_with (first
          | (go_at_call 25; with_reducible refine (HND.out _ HKp.out).mono ?_; rintro e_ w3 ⟨rfl, hb⟩; have n0_ := Aside0.mk (below_step HB.out hb); have n1_ := Aside0.mk (Kd.R_below HR.out hb); have n2_ := Aside0.mk (HKp.out.below hb); clear HB HR HKp; have HB := n0_; have HR := n1_; have HKp := n2_; clear n0_ n1_ n2_ hb)
          | (go_at_call 31; with_reducible refine (HPC.out _ HKp.out).mono ?_; rintro e_ w3 ⟨rfl, hb⟩; have n0_ := Aside0.mk (below_step HB.out hb); have n1_ := Aside0.mk (Kd.R_below HR.out hb); have n2_ := Aside0.mk (HKp.out.below hb); clear HB HR HKp; have HB := n0_; have HR := n1_; have HKp := n2_; clear n0_ n1_ n2_ hb; obtain ⟨hx, hf⟩ := HCELL.out _ HR.out; clear hf))
        go_ret
        exact ⟨_, (by rw [HRES.out]; rfl), HT.out, HR.out, HB.out, HKp.out⟩
theorem HfC_all : ∀ m, HfC m
  | 0 => fun _ _ _ _ _ _ _ _ _ _ _ _ _ _ _ _ _ _ h => absurd h (Nat.not_lt_zero _)
  | m + 1 => hoFew_step m (HfC_all m)

end Go.Proofs.Ytoldjcmokcgaiaa.PrintA
