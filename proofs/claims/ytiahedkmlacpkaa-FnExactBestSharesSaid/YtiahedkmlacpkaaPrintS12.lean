-- written by this session's own driver (wip/gen.py) with the kit's print and contracts of our own
import Derived.Test.YtiahedkmlacpkaaPrintS0
import Derived.Test.YtiahedkmlacpkaaPrintS1
import Derived.Test.YtiahedkmlacpkaaPrintS10
import Derived.Test.YtiahedkmlacpkaaPrintS11
namespace Go.Proofs.Ytiahedkmlacpkaa.PrintS
open Go.RowKit Go.Proofs.YtiahedkmlacpkaaLib Go.Proofs.YtiahedkmlacpkaaW.PrintWords Go.Proofs.YtiahedkmlacpkaaW.PrintLast Go.Proofs.YtiahedkmlacpkaaW.PrintMore
attribute [local go_sem] max2_int min2_int max_two min_two max_three min_three max_four min_four   -- for this text's walks alone
set_option linter.unusedVariables false
set_option linter.unusedSimpArgs false

/-! ### impl_reaches_sharedTests: function 58, a contract of our own -/
theorem drop_rd (l : List Int) (k : Nat) (h : k < l.length) : l.drop k = rd l (k : Int) :: l.drop (k + 1) := by
  rw [List.drop_eq_getElem_cons h]; simp [rd, List.getD_eq_getElem?_getD, h]
/-- The sum of the fewest tests of houses with shares; false if a house lacks an egg. -/
def shL : List Int → List Int → Int → Int × Bool
  | [], _, s => (s, true)
  | _ :: _, [], s => (s, true)
  | n :: t, q :: u, s => if 0 < n then (if q = 0 then (0, false) else shL t u (s + few q.toNat n)) else shL t u s
set_option maxHeartbeats 4000000 in
set_option maxRecDepth 100000 in
theorem sharedTests_calls (g : Nat) (A0 : Option Addr) (c0 : Nat) (l0 : List Int) (A1 : Option Addr) (c1 : Nat) (l1 : List Int) (w : World) (hR : IsReaches w g) (hr0 : Kd.C (Kd.int .i64) w A0 l0.length l0) (hr1 : Kd.C (Kd.int .i64) w A1 l1.length l1) (hl : l1.length = l0.length) (hb : l0.length ≤ 1000) (hq : ∀ x ∈ l1, 0 ≤ x ∧ x ≤ 10) :
    Calls Try.prog 58 #[.pointer (some ⟨g, 0, none⟩), .slice A0 l0.length c0, .slice A1 l1.length c1] w fun e w' => e = .returned (.tuple #[.int .i64 (shL l0 l1 0).1, .bool (shL l0 l1 0).2]) ∧ w = w' := by
  have HREACH := Aside0.mk hR
  have HR0 := Aside0.mk hr0
  have HR1 := Aside0.mk hr1
  have HQ := Aside0.mk hq
  clear hR hr0 hr1 hq
  generalize hr : shL l0 l1 0 = r
  have HRES := Aside0.mk hr
  clear hr
  rw [hl]
  obtain ⟨n, hn⟩ : ∃ n, l0.length = n := ⟨_, rfl⟩
  rw [hn] at hl hb
  have HN := Aside0.mk hn
  have HN1 := Aside0.mk hl
  rw [hn]
  clear hn hl
  go_enter Try.func58, Try.ntmps58
  go_wp2
  go_loopg [8, 9, 10, 13] n (fun gg v8 _ _ v13 wr => ∃ (kk : Nat) (s : Int), kk ≤ n ∧ n - kk ≤ gg ∧ v13 = .int .i64 kk ∧ v8 = .int .i64 s ∧ 0 ≤ s ∧ s ≤ 1000 * kk ∧ w = wr ∧ Aside0 (shL (l0.drop kk) (l1.drop kk) s = r))
  case atStart => exact ⟨0, 0, Nat.zero_le _, by omega, rfl, rfl, by omega, by omega, rfl, HRES⟩
  case round =>
    clear HRES
    obtain ⟨kk, s, hkk, hg, rfl, rfl, hs0, hs1, rfl, HRES⟩ := hrel
    by_cases hlt : kk < n
    · have hltz : (kk : Int) < (n : Int) := by omega
      obtain ⟨ad, e, hx⟩ := Kd.at_int (HN.out ▸ HR0.out) (kk : Int) (by omega) hltz
      cases e
      obtain ⟨ad1, e, hx1⟩ := Kd.at_int (HN1.out ▸ HR1.out) (kk : Int) (by omega) hltz
      cases e
      rw [Int.toNat_natCast] at hx hx1
      have hres := HRES.out
      rw [drop_rd l0 kk (by rw [HN.out]; exact hlt), drop_rd l1 kk (by rw [HN1.out]; exact hlt), shL] at hres
      have hqk : 0 ≤ rd l1 (kk : Int) ∧ rd l1 (kk : Int) ≤ 10 := by
        have h : kk < l1.length := by rw [HN1.out]; exact hlt
        have e : rd l1 (kk : Int) = l1[kk] := by simp [rd, List.getD_eq_getElem?_getD, h]
        rw [e]; exact HQ.out _ (List.getElem_mem h)
      clear HRES
      generalize rd l0 (kk : Int) = y at hx hres
      generalize rd l1 (kk : Int) = q at hx1 hres hqk
      obtain ⟨q', rfl⟩ : ∃ q' : Nat, q = q' := ⟨q.toNat, by omega⟩
      rw [Int.toNat_natCast] at hres
      by_cases hy : 0 < y
      · have hyd : decide (0 < y) = true := decide_eq_true hy
        rw [if_pos hy] at hres
        by_cases hz : q' = 0
        · subst hz
          rw [if_pos (by omega)] at hres
          have HF := Aside0.mk hres
          have hz0 : (((0 : Nat) : Int) == 0) = true := rfl
          clear hres
          go_wp2
          go_ret2
          exact ⟨by rw [← HF.out]; rfl, rfl⟩
        · have hz0 : (((q' : Nat) : Int) == 0) = false := beq_eq_false_iff_ne.mpr (by omega)
          have hz1 : (q' == 0) = false := beq_eq_false_iff_ne.mpr hz
          rw [if_neg (by omega)] at hres
          have HRES := Aside0.mk hres
          have HC := Aside0.mk (fewest_calls g q' y w (by omega) (by omega) HREACH.out)
          have hfl := few_le q' y
          clear hres hz
          generalize few q' y = f at HRES HC hfl
          go_wp2_with (go_at_call 73; refine (HC.out).mono ?_; rintro e w' ⟨rfl, rfl⟩)
          go_roundg (n - (kk + 1))
          case measure => omega
          case rel => exact ⟨kk + 1, s + f, by omega, by omega, by go_num, rfl, by omega, by omega, rfl, HRES⟩
      · have hyd : decide (0 < y) = false := decide_eq_false hy
        rw [if_neg hy] at hres
        have HRES := Aside0.mk hres
        clear hres
        go_wp2
        go_roundg (n - (kk + 1))
        case measure => omega
        case rel => exact ⟨kk + 1, s, by omega, by omega, by go_num, rfl, by omega, by omega, rfl, HRES⟩
    · have hltz : ¬ (kk : Int) < (n : Int) := by omega
      have hkn : kk = n := by omega
      have HF : Aside0 ((s, true) = r) := ⟨by rw [← HRES.out, List.drop_of_length_le (by rw [HN.out]; omega)]; rfl⟩
      clear hkn
      go_wp2
      go_ret2
      exact ⟨by rw [← HF.out]; rfl, rfl⟩

/-! behind spec_hoShares -/
-- LIB Shares
-- LIB Houses
theorem hoShared_go (l0 l1 : List Int) (hl : l1.length = l0.length) (h3 : l0.length ≤ 3) (h0 : ∀ x ∈ l0, 0 ≤ x ∧ x ≤ 8) (h1 : ∀ x ∈ l1, 0 ≤ x ∧ x ≤ 10) : ∀ (d k i : Nat) (s : Int), l0.length - i = d → i ≤ l0.length → 20000 + d < k → 0 ≤ s → s ≤ 1000 * i →
    spec_hoShared.l0 k l1 s l0 (l0.length : Int) (i : Int) = some (shL (l0.drop i) (l1.drop i) s) := by
  intro d
  induction d with
  | zero =>
    intro k i s hd hi hk hs hs1
    obtain ⟨k, rfl⟩ : ∃ m, k = m + 1 := ⟨k - 1, by omega⟩
    rw [spec_hoShared.l0, if_neg (by omega), List.drop_of_length_le (by omega)]
    rfl
  | succ d ih =>
    intro k i s hd hi hk hs hs1
    obtain ⟨k, rfl⟩ : ∃ m, k = m + 1 := ⟨k - 1, by omega⟩
    have hlt : i < l0.length := by omega
    have hlt1 : i < l1.length := by omega
    have e0 : rd l0 (i : Int) = l0[i] := by simp [rd, List.getD_eq_getElem?_getD, hlt]
    have e1 : rd l1 (i : Int) = l1[i] := by simp [rd, List.getD_eq_getElem?_getD, hlt1]
    have b0 := h0 _ (List.getElem_mem hlt)
    have b1 := h1 _ (List.getElem_mem hlt1)
    rw [← e0] at b0
    rw [← e1] at b1
    have hih := fun s => ih k (i + 1) s (by omega) (by omega) (by omega)
    have e2 : wrap64 ((i : Int) + 1) = ((i + 1 : Nat) : Int) := by clear e0 e1; unfold wrap64; omega
    rw [spec_hoShared.l0, if_pos (show (i : Int) < (l0.length : Int) by clear e2; omega), if_pos (show (0 : Int) ≤ (i : Int) by clear e2; omega), if_pos (show (i : Int) < (l0.length : Int) by clear e2; omega), drop_rd l0 i hlt, drop_rd l1 i hlt1, shL, e2]
    by_cases hz : rd l0 (i : Int) = 0
    · rw [if_pos hz, if_neg (show ¬ 0 < rd l0 (i : Int) by clear e2; omega)]
      exact hih s hs (by clear e2; omega)
    · rw [if_neg hz, if_pos (show (i : Int) < (l1.length : Int) by clear e2; omega), if_pos (show 0 < rd l0 (i : Int) by clear e2; omega)]
      by_cases hq : rd l1 (i : Int) = 0
      · rw [if_pos hq, if_pos hq]
      · rw [if_neg hq, if_neg hq]
        obtain ⟨q, hq'⟩ : ∃ q : Nat, rd l1 (i : Int) = q := ⟨(rd l1 (i : Int)).toNat, by clear e2; omega⟩
        have hf := few_le q (rd l0 (i : Int))
        have hw : ∀ f : Nat, f ≤ 1000 → wrap64 (s + (f : Int)) = s + f := fun f hf => by clear e2; unfold wrap64; omega
        rw [hq', spec_flFew_is q _ (by clear e2; omega) (by clear e2; omega) (by clear e2; omega) k (by clear e2; omega), Option.bind_some, hw _ hf, Int.toNat_natCast]
        exact hih _ (by clear e2; omega) (by clear e2; omega)
theorem hoShares_is (l : List Int) (h3 : l.length ≤ 3) (hk : ∀ x ∈ l, 0 ≤ x ∧ x ≤ 8) : ∀ (m es : Nat) (b : List Int) (k : Nat), b.length + m = l.length → (∀ x ∈ b, 0 ≤ x ∧ x ≤ 10) → es ≤ 6 → 20100 + 20 * m ≤ k → spec_hoShares.f k (es : Int) l b = some (sHs (fun c => shL l c 0) m es b)
  | 0, es, b, k, hlen, hb, he, hkk => by
    obtain ⟨k, rfl⟩ : ∃ q, k = q + 1 := ⟨k - 1, by omega⟩
    have hs := hoShared_go l b (by omega) h3 hk hb l.length k 0 0 (by omega) (by omega) (by omega) (by omega) (by omega)
    have hs2 : spec_hoShared.f k l b = some (shL l b 0) := hs
    rw [spec_hoShares.f, if_pos (by omega), hs2, Option.bind_some, sHs]
    by_cases h1 : (shL l b 0).2 = true
    · rw [if_pos h1, if_pos h1]
      by_cases h2 : (es : Int) > 0
      · rw [if_pos h2, if_pos h2]
      · rw [if_neg h2, if_neg h2]
    · rw [if_neg h1, if_neg h1]
  | m + 1, es, b, k, hlen, hb, he, hkk => by
    obtain ⟨k, rfl⟩ : ∃ q, k = q + 1 := ⟨k - 1, by omega⟩
    have hown : spec_l1Own.f b = some b := by
      unfold spec_l1Own.f
      simp
      omega
    have loop : ∀ (r s : Nat) (acc : List Int × Int) (k' : Nat), es + 1 - s = r → s ≤ es + 1 → 20100 + 20 * m + r < k' → spec_hoShares.l0 k' (es : Int) l b acc.1 acc.2 (s : Int) = some ((List.range r).foldl (fun acc (t : Nat) => sComb acc (sHs (fun c => shL l c 0) m (es - (s + t)) (b ++ [((s + t : Nat) : Int)]))) acc) := by
      intro r
      induction r with
      | zero =>
        intro s acc k' hr hs hk'
        obtain ⟨k', rfl⟩ : ∃ q, k' = q + 1 := ⟨k' - 1, by omega⟩
        rw [spec_hoShares.l0, if_neg (by omega)]
        rfl
      | succ r ih =>
        intro s acc k' hr hs hk'
        obtain ⟨k', rfl⟩ : ∃ q, k' = q + 1 := ⟨k' - 1, by omega⟩
        have e1 : wrap64 ((es : Int) - (s : Int)) = ((es - s : Nat) : Int) := by unfold wrap64; omega
        have e2 : wrap64 ((s : Int) + 1) = ((s + 1 : Nat) : Int) := by clear e1; unfold wrap64; omega
        have hrec := hoShares_is l h3 hk m (es - s) (b ++ [(s : Int)]) k' (by clear e1 e2; rw [List.length_append]; simp; omega) (fun x hx => by
          rcases List.mem_append.1 hx with h | h
          · exact hb x h
          · rw [List.mem_singleton] at h
            clear e1 e2
            omega) (by clear e1 e2; omega) (by clear e1 e2; omega)
        rw [spec_hoShares.l0, if_pos (by clear e1 e2; omega), hown, Option.bind_some, if_pos (by clear e1 e2; omega), e1, hrec, Option.bind_some, e2, List.range_succ_eq_map, List.foldl_cons, List.foldl_map]
        have hcomb : ∀ (x : List Int × Int), (if x.2 < acc.2 then spec_hoShares.l0 k' (es : Int) l b x.1 x.2 ((s + 1 : Nat) : Int) else spec_hoShares.l0 k' (es : Int) l b acc.1 acc.2 ((s + 1 : Nat) : Int)) = spec_hoShares.l0 k' (es : Int) l b (sComb acc x).1 (sComb acc x).2 ((s + 1 : Nat) : Int) := by
          intro x
          unfold sComb
          split <;> rfl
        rw [hcomb, ih (s + 1) _ k' (by clear e1 e2; omega) (by clear e1 e2; omega) (by clear e1 e2; omega)]
        have hf : (fun (acc : List Int × Int) (t : Nat) => sComb acc (sHs (fun c => shL l c 0) m (es - (s + 1 + t)) (b ++ [((s + 1 + t : Nat) : Int)]))) = (fun (acc : List Int × Int) (t : Nat) => sComb acc (sHs (fun c => shL l c 0) m (es - (s + Nat.succ t)) (b ++ [((s + Nat.succ t : Nat) : Int)]))) := by
          funext acc t
          rw [show s + Nat.succ t = s + 1 + t by omega]
        rw [hf]
        rfl
    rw [spec_hoShares.f, if_neg (by omega)]
    have hl := loop (es + 1) 0 ([], 1000) k (by omega) (by omega) (by omega)
    simp only [Nat.zero_add] at hl
    exact hl
theorem shL_bound : ∀ (l c : List Int) (s : Int), (∀ x ∈ l, 0 ≤ x ∧ x ≤ 8) → (∀ q ∈ c, 0 ≤ q) → 0 ≤ s → 0 ≤ (shL l c s).1 ∧ (shL l c s).1 ≤ s + 8 * l.length
  | [], _, s, _, _, hs => by simp [shL]; omega
  | n :: t, [], s, _, _, hs => by
    rw [shL, List.length_cons]
    simp only
    omega
  | n :: t, q :: u, s, hl, hc, hs => by
    have hn := hl n List.mem_cons_self
    have hq := hc q List.mem_cons_self
    have hl' := fun x hx => hl x (List.mem_cons_of_mem _ hx)
    have hc' := fun x hx => hc x (List.mem_cons_of_mem _ hx)
    rw [shL, List.length_cons]
    by_cases h1 : 0 < n
    · rw [if_pos h1]
      by_cases h2 : q = 0
      · rw [if_pos h2]; simp only; omega
      · rw [if_neg h2]
        have hf : few q.toNat n ≤ 8 := (few_le_iff q.toNat n 8 (by omega)).2 (by
          have := rch_lin 8 q.toNat (by omega) (by omega)
          omega)
        have ih := shL_bound t u (s + few q.toNat n) hl' hc' (by omega)
        omega
    · rw [if_neg h1]
      have ih := shL_bound t u s hl' hc' hs
      omega
theorem shL_ok : ∀ (l c : List Int) (s : Int), sOk l c → (shL l c s).2 = true
  | [], _, _, _ => by simp [shL]
  | n :: t, [], _, _ => by rw [shL]
  | n :: t, q :: u, s, h => by
    rw [shL]
    by_cases h1 : 0 < n
    · rw [if_pos h1, if_neg (h.1 h1)]
      exact shL_ok t u _ h.2
    · rw [if_neg h1]
      exact shL_ok t u s h.2
theorem sOnes_need : ∀ l : List Int, sSum (sOnes l) = hNeed l
  | [] => rfl
  | n :: t => by
    show (if 0 < n then (1 : Int) else 0) + sSum (sOnes t) = (if 0 < n then (1 : Int) else 0) + hNeed t
    rw [sOnes_need t]
/-- The program's shares are the reference's. -/
theorem sBest_is (e : Nat) (l : List Int) (h1 : 1 ≤ l.length) (hk : ∀ x ∈ l, 0 ≤ x ∧ x ≤ 8) (h3 : l.length ≤ 3) (he : hNeed l ≤ e) :
    (sAll e l.length).foldl (sStep (fun c => shL l c 0) (e : Int)) ([], 1125899906842624) = sHs (fun c => shL l c 0) l.length e [] ∧ (sHs (fun c => shL l c 0) l.length e []).2 < 1000 ∧ 0 ≤ (sHs (fun c => shL l c 0) l.length e []).2 := by
  have hsum := sOnes_need l
  have hl : ∀ c ∈ sx e l.length, (shL l c 0).2 = true → (shL l c 0).1 < 1000 := fun c hc _ => by
    have := (shL_bound l c 0 hk (fun q hq => (((sx_mem e l.length c).1 hc).2 q hq).1) (Int.le_refl _)).2
    omega
  match l, h1 with
  | n :: t, _ =>
    have hd : 0 ≤ (e : Int) - sSum (sOnes (n :: t)) := by omega
    have hs : sSum (sOnes (n :: t)) + ((e : Int) - sSum (sOnes (n :: t))) = (e : Int) := by omega
    have hfin := sFinal (fun c => shL (n :: t) c 0) e (n :: t).length 1125899906842624 (by decide) hl (sGive (n :: t) ((e : Int) - sSum (sOnes (n :: t)))) (sGive_in n t e _ hd hs) (by rw [sGive_sum]; exact hs) (shL_ok _ _ _ (sGive_ok n t _ hd))
    refine ⟨hfin.1, hfin.2, ?_⟩
    rw [← hfin.1]
    have hge : ∀ (L : List (List Int)) (a : List Int × Int), (∀ c ∈ L, 0 ≤ (shL (n :: t) c 0).1) → 0 ≤ a.2 → 0 ≤ (L.foldl (sStep (fun c => shL (n :: t) c 0) (e : Int)) a).2 := by
      intro L
      induction L with
      | nil => intro a _ h; exact h
      | cons c r ih =>
        intro a h1 h2
        rw [List.foldl_cons]
        refine ih _ (fun x hx => h1 x (List.mem_cons_of_mem _ hx)) ?_
        unfold sStep
        have := h1 c List.mem_cons_self
        split
        · split
          · exact this
          · exact h2
        · exact h2
    refine hge _ _ (fun c hc => ?_) (by decide)
    rw [sAll_eq] at hc
    exact (shL_bound _ c 0 hk (fun q hq => (((sx_mem e _ c).1 hc).2 q hq).1) (Int.le_refl _)).1

end Go.Proofs.Ytiahedkmlacpkaa.PrintS
