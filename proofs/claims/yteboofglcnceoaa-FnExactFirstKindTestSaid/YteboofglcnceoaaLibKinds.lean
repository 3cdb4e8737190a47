/- Plain laws on numbers and lists (Kinds), without any program. Conditions: those of each lemma. -/
set_option linter.unusedVariables false
set_option linter.unusedSimpArgs false
namespace Go.Proofs.YteboofglcnceoaaLib
/-- What is known of both breaks: weak from a to b, strong from c to d; w and s eggs. -/
structure KSt where
  a : Int
  b : Int
  c : Int
  d : Int
  w : Int
  s : Int
def kBeh (k : KSt) (st : Bool) (f : Int) (br : Bool) : KSt :=
  match st, br with
  | true, true => ⟨k.a, k.b, k.c, f - 1, k.w, k.s - 1⟩
  | true, false => ⟨k.a, k.b, f, k.d, k.w, k.s⟩
  | false, true => ⟨k.a, f - 1, k.c, k.d, k.w - 1, k.s⟩
  | false, false => ⟨f, k.b, k.c, k.d, k.w, k.s⟩
def kTight (k : KSt) : KSt := ⟨k.a, min k.b k.d, max k.c k.a, k.d, k.w, k.s⟩
def kAft (k : KSt) (st : Bool) (f : Int) (br : Bool) : KSt := kTight (kBeh k st f br)
/-- Floors above lo, n of them. -/
def kRow (st : Bool) (lo : Int) (n : Nat) : List (Bool × Int) := (List.range n).map (fun (i : Nat) => (st, lo + 1 + (i : Int)))
theorem kRow_len (st : Bool) (lo : Int) (n : Nat) : (kRow st lo n).length = n := by simp [kRow]
theorem kRow_succ (st : Bool) (lo : Int) (n : Nat) : kRow st lo (n + 1) = kRow st lo n ++ [(st, lo + 1 + (n : Int))] := by
  simp [kRow, List.range_succ]
theorem kRow_mem (st : Bool) (lo : Int) (n : Nat) (t : Bool × Int) : t ∈ kRow st lo n ↔ t.1 = st ∧ lo < t.2 ∧ t.2 ≤ lo + n := by
  simp only [kRow, List.mem_map, List.mem_range]
  constructor
  · rintro ⟨i, hi, rfl⟩
    exact ⟨rfl, by simp; omega, by simp; omega⟩
  · rintro ⟨h1, h2, h3⟩
    refine ⟨(t.2 - lo - 1).toNat, by omega, ?_⟩
    obtain ⟨x, y⟩ := t
    simp at *
    exact ⟨h1.symm, by omega⟩
def kWn (k : KSt) : Nat := if k.w > 0 then (k.b - k.a).toNat else 0
def kSn (k : KSt) : Nat := if k.s > 0 then (k.d - k.c).toNat else 0
/-- The tests of which one does not know what becomes. -/
def kTests (k : KSt) : List (Bool × Int) := kRow false k.a (kWn k) ++ kRow true k.c (kSn k)
structure KOk (k : KSt) : Prop where
  a0 : 0 ≤ k.a
  ab : k.a ≤ k.b
  bd : k.b ≤ k.d
  d6 : k.d ≤ 6
  ac : k.a ≤ k.c
  cd : k.c ≤ k.d
  w0 : 0 ≤ k.w
  w3 : k.w ≤ 3
  s0 : 0 ≤ k.s
  s3 : k.s ≤ 3
def kMu (k : KSt) : Nat := ((k.b - k.a) + (k.d - k.c)).toNat
theorem kMu_le {k : KSt} (h : KOk k) : kMu k ≤ 12 := by
  obtain ⟨h1, h2, h3, h4, h5, h6, _, _, _, _⟩ := h
  unfold kMu; omega
theorem kTests_mem {k : KSt} (t : Bool × Int) (ht : t ∈ kTests k) : (t.1 = false ∧ k.a < t.2 ∧ t.2 ≤ k.b ∧ 0 < k.w) ∨ (t.1 = true ∧ k.c < t.2 ∧ t.2 ≤ k.d ∧ 0 < k.s) := by
  unfold kTests at ht
  rcases List.mem_append.1 ht with h | h
  · rw [kRow_mem] at h
    unfold kWn at h
    split at h
    · exact Or.inl ⟨h.1, h.2.1, by omega, by omega⟩
    · omega
  · rw [kRow_mem] at h
    unfold kSn at h
    split at h
    · exact Or.inr ⟨h.1, h.2.1, by omega, by omega⟩
    · omega
theorem kAft_ok {k : KSt} (h : KOk k) (t : Bool × Int) (ht : t ∈ kTests k) (br : Bool) : KOk (kAft k t.1 t.2 br) ∧ kMu (kAft k t.1 t.2 br) < kMu k := by
  obtain ⟨h1, h2, h3, h4, h5, h6, h7, h8, h9, h10⟩ := h
  obtain ⟨st, f⟩ := t
  rcases kTests_mem _ ht with ⟨rfl, g1, g2, g3⟩ | ⟨rfl, g1, g2, g3⟩ <;> cases br <;> simp only at g1 g2 g3 <;>
    refine ⟨⟨?_, ?_, ?_, ?_, ?_, ?_, ?_, ?_, ?_, ?_⟩, ?_⟩ <;> simp only [kAft, kBeh, kTight, kMu] <;> omega
def kEnd (al : Bool) (k : KSt) : Bool := decide (k.a = k.b) && (al || decide (k.c = k.d))
def kNever : Int := 1125899906842624
def kF (al : Bool) : Nat → KSt → Int
  | 0, _ => 0
  | n + 1, k => if kEnd al k = true then 0 else (kTests k).foldl (fun o t => min o (1 + max (kF al n (kAft k t.1 t.2 false)) (kF al n (kAft k t.1 t.2 true)))) kNever
theorem foldl_congr_mem {α β : Type} (f g : β → α → β) : ∀ (l : List α) (b : β), (∀ x ∈ l, ∀ b, f b x = g b x) → l.foldl f b = l.foldl g b
  | [], _, _ => rfl
  | x :: r, b, h => by
    rw [List.foldl_cons, List.foldl_cons, h x List.mem_cons_self b]
    exact foldl_congr_mem f g r _ (fun y hy => h y (List.mem_cons_of_mem _ hy))
theorem kF_fuel (al : Bool) : ∀ (n m : Nat) (k : KSt), KOk k → kMu k < n → kMu k < m → kF al n k = kF al m k
  | 0, _, _, _, h, _ => absurd h (Nat.not_lt_zero _)
  | _ + 1, 0, _, _, _, h => absurd h (Nat.not_lt_zero _)
  | n + 1, m + 1, k, hk, hn, hm => by
    rw [kF, kF]
    split
    · rfl
    · refine foldl_congr_mem _ _ _ _ (fun t ht o => ?_)
      have h1 := kAft_ok hk t ht false
      have h2 := kAft_ok hk t ht true
      rw [kF_fuel al n m _ h1.1 (by omega) (by omega), kF_fuel al n m _ h2.1 (by omega) (by omega)]
/-- The least number of tests, or never. -/
def kVal (al : Bool) (k : KSt) : Int := kF al 13 k
def kW (al : Bool) (k : KSt) (t : Bool × Int) : Int := 1 + max (kVal al (kAft k t.1 t.2 false)) (kVal al (kAft k t.1 t.2 true))
def kFold (al : Bool) (k : KSt) (l : List (Bool × Int)) (o : Int) : Int := l.foldl (fun o t => min o (kW al k t)) o
theorem kVal_eq (al : Bool) (k : KSt) (hk : KOk k) : kVal al k = if kEnd al k = true then 0 else kFold al k (kTests k) kNever := by
  show kF al 13 k = _
  rw [kF]
  split
  · rfl
  · refine foldl_congr_mem _ _ _ _ (fun t ht o => ?_)
    have h0 := kMu_le hk
    have h1 := kAft_ok hk t ht false
    have h2 := kAft_ok hk t ht true
    unfold kW kVal
    rw [kF_fuel al 12 13 _ h1.1 (by omega) (by omega), kF_fuel al 12 13 _ h2.1 (by omega) (by omega)]
theorem kFold_le (al : Bool) (k : KSt) : ∀ (l : List (Bool × Int)) (o : Int), kFold al k l o ≤ o
  | [], _ => Int.le_refl _
  | t :: r, o => by
    have := kFold_le al k r (min o (kW al k t))
    show kFold al k r (min o (kW al k t)) ≤ o
    omega
theorem kFold_mem (al : Bool) (k : KSt) : ∀ (l : List (Bool × Int)) (o : Int) (t : Bool × Int), t ∈ l → kFold al k l o ≤ kW al k t
  | x :: r, o, t, h => by
    show kFold al k r (min o (kW al k x)) ≤ _
    rcases List.mem_cons.1 h with rfl | h
    · have := kFold_le al k r (min o (kW al k t)); omega
    · exact kFold_mem al k r _ t h
theorem kFold_ge (al : Bool) (k : KSt) : ∀ (l : List (Bool × Int)) (o : Int), 0 ≤ o → (∀ t ∈ l, 0 ≤ kW al k t) → 0 ≤ kFold al k l o
  | [], _, h, _ => h
  | t :: r, o, h, hl => by
    show 0 ≤ kFold al k r (min o (kW al k t))
    exact kFold_ge al k r _ (by have := hl t List.mem_cons_self; omega) (fun y hy => hl y (List.mem_cons_of_mem _ hy))
theorem kF_range (al : Bool) : ∀ (n : Nat) (k : KSt), 0 ≤ kF al n k ∧ kF al n k ≤ kNever
  | 0, _ => by simp [kF, kNever]
  | n + 1, k => by
    rw [kF]
    split
    · simp [kNever]
    · have hg : ∀ (l : List (Bool × Int)) (o : Int), 0 ≤ o → o ≤ kNever → 0 ≤ l.foldl (fun o t => min o (1 + max (kF al n (kAft k t.1 t.2 false)) (kF al n (kAft k t.1 t.2 true)))) o ∧ l.foldl (fun o t => min o (1 + max (kF al n (kAft k t.1 t.2 false)) (kF al n (kAft k t.1 t.2 true)))) o ≤ kNever := by
        intro l
        induction l with
        | nil => intro o h1 h2; exact ⟨h1, h2⟩
        | cons t r ih =>
          intro o h1 h2
          rw [List.foldl_cons]
          have := (kF_range al n (kAft k t.1 t.2 false)).1
          exact ih _ (by omega) (by omega)
      exact hg _ _ (by decide) (Int.le_refl _)
theorem kVal_range (al : Bool) (k : KSt) : 0 ≤ kVal al k ∧ kVal al k ≤ kNever := kF_range al 13 k
theorem kW_range (al : Bool) (k : KSt) (t : Bool × Int) : 1 ≤ kW al k t ∧ kW al k t ≤ kNever + 1 := by
  have h1 := kVal_range al (kAft k t.1 t.2 false)
  have h2 := kVal_range al (kAft k t.1 t.2 true)
  unfold kW; omega
/-- With eggs for what is not known yet there is a plan. -/
theorem kVal_le (al : Bool) : ∀ (m : Nat) (k : KSt), KOk k → kMu k ≤ m → (k.a = k.b ∨ 1 ≤ k.w) → (k.c = k.d ∨ 1 ≤ k.s) → kVal al k ≤ kMu k := by
  intro m
  induction m with
  | zero =>
    intro k hk hm _ _
    obtain ⟨h1, h2, h3, h4, h5, h6, h7, h8, h9, h10⟩ := id hk
    unfold kMu at hm
    have he : kEnd al k = true := by
      unfold kEnd
      rw [decide_eq_true (by omega : k.a = k.b), decide_eq_true (by omega : k.c = k.d)]
      cases al <;> rfl
    rw [kVal_eq al k hk, if_pos he]
    exact Int.natCast_nonneg _
  | succ m ih =>
    intro k hk hm hw hs
    obtain ⟨h1, h2, h3, h4, h5, h6, h7, h8, h9, h10⟩ := id hk
    rw [kVal_eq al k hk]
    by_cases he : kEnd al k = true
    · rw [if_pos he]; exact Int.natCast_nonneg _
    · rw [if_neg he]
      have hone : ∀ t ∈ kTests k, ((∀ br, ((kAft k t.1 t.2 br).a = (kAft k t.1 t.2 br).b ∨ 1 ≤ (kAft k t.1 t.2 br).w) ∧ ((kAft k t.1 t.2 br).c = (kAft k t.1 t.2 br).d ∨ 1 ≤ (kAft k t.1 t.2 br).s))) → kFold al k (kTests k) kNever ≤ kMu k := by
        intro t ht hb
        have g1 := kAft_ok hk t ht false
        have g2 := kAft_ok hk t ht true
        have i1 := ih _ g1.1 (by omega) (hb false).1 (hb false).2
        have i2 := ih _ g2.1 (by omega) (hb true).1 (hb true).2
        have i3 := kFold_mem al k (kTests k) kNever t ht
        unfold kW at i3
        omega
      by_cases hab : k.a = k.b
      · have hcd : ¬ k.c = k.d := by
          intro hcd
          apply he
          unfold kEnd
          rw [decide_eq_true hab, decide_eq_true hcd]
          cases al <;> rfl
        refine hone (true, k.c + 1) (List.mem_append_right _ ((kRow_mem _ _ _ _).2 ⟨rfl, by simp; omega, ?_⟩)) ?_
        · unfold kSn; rw [if_pos (by omega)]; simp; omega
        · intro br
          cases br <;> simp only [kAft, kBeh, kTight] <;> omega
      · refine hone (false, k.a + 1) (List.mem_append_left _ ((kRow_mem _ _ _ _).2 ⟨rfl, by simp; omega, ?_⟩)) ?_
        · unfold kWn; rw [if_pos (by omega)]; simp; omega
        · intro br
          cases br <;> simp only [kAft, kBeh, kTight] <;> omega
/-- The reference's numbers: no more than 1000. -/
def kS (al : Bool) (k : KSt) : Int := min 1000 (kVal al k)
def kSW (al : Bool) (k : KSt) (t : Bool × Int) : Int := min 1000 (1 + max (kS al (kAft k t.1 t.2 true)) (kS al (kAft k t.1 t.2 false)))
theorem kSW_eq (al : Bool) (k : KSt) (t : Bool × Int) : kSW al k t = min 1000 (kW al k t) := by
  unfold kSW kS kW; omega
def kSFold (al : Bool) (k : KSt) (l : List (Bool × Int)) (o : Int) : Int := l.foldl (fun o t => min o (kSW al k t)) o
theorem kSFold_eq (al : Bool) (k : KSt) : ∀ (l : List (Bool × Int)) (o : Int), kSFold al k l (min 1000 o) = min 1000 (kFold al k l o)
  | [], _ => rfl
  | t :: r, o => by
    show kSFold al k r (min (min 1000 o) (kSW al k t)) = min 1000 (kFold al k r (min o (kW al k t)))
    rw [kSW_eq, ← kSFold_eq al k r]
    congr 1
    omega
theorem kS_eq (al : Bool) (k : KSt) (hk : KOk k) : kS al k = if kEnd al k = true then 0 else kSFold al k (kTests k) 1000 := by
  unfold kS
  rw [kVal_eq al k hk]
  split
  · rfl
  · rw [← kSFold_eq]; rfl
theorem kS_range (al : Bool) (k : KSt) : 0 ≤ kS al k ∧ kS al k ≤ 1000 := by
  have := kVal_range al k
  unfold kS; omega
theorem kFold_append (al : Bool) (k : KSt) (x y : List (Bool × Int)) (o : Int) : kFold al k (x ++ y) o = kFold al k y (kFold al k x o) := List.foldl_append
theorem kSFold_append (al : Bool) (k : KSt) (x y : List (Bool × Int)) (o : Int) : kSFold al k (x ++ y) o = kSFold al k y (kSFold al k x o) := List.foldl_append
/-- The place of a state in the table. -/
def kPlace (k : KSt) : Nat := (((((k.a * 7 + k.b) * 7 + k.c) * 7 + k.d) * 4 + k.w) * 4 + k.s).toNat
theorem kPlace_lt {k : KSt} (h : KOk k) : kPlace k < 38416 := by
  obtain ⟨h1, h2, h3, h4, h5, h6, h7, h8, h9, h10⟩ := h
  unfold kPlace; omega
theorem kPlace_cast {k : KSt} (h : KOk k) : ((kPlace k : Nat) : Int) = ((((k.a * 7 + k.b) * 7 + k.c) * 7 + k.d) * 4 + k.w) * 4 + k.s := by
  obtain ⟨h1, h2, h3, h4, h5, h6, h7, h8, h9, h10⟩ := h
  unfold kPlace; omega
theorem kPlace_inj {k k' : KSt} (h : KOk k) (h' : KOk k') (e : kPlace k = kPlace k') : k = k' := by
  have e1 := kPlace_cast h
  have e2 := kPlace_cast h'
  rw [e, e2] at e1
  obtain ⟨h1, h2, h3, h4, h5, h6, h7, h8, h9, h10⟩ := h
  obtain ⟨g1, g2, g3, g4, g5, g6, g7, g8, g9, g10⟩ := h'
  obtain ⟨a, b, c, d, w, s⟩ := k
  obtain ⟨a', b', c', d', w', s'⟩ := k'
  simp only at *
  clear e e2
  generalize hp : ((a * 7 + b) * 7 + c) * 7 + d = p at e1
  generalize hp' : ((a' * 7 + b') * 7 + c') * 7 + d' = p' at e1
  obtain ⟨rfl, rfl, rfl⟩ : p = p' ∧ w = w' ∧ s = s' := by refine ⟨?_, ?_, ?_⟩ <;> omega
  rw [← hp'] at hp
  clear e1 hp'
  generalize hq : (a * 7 + b) * 7 + c = q at hp
  generalize hq' : (a' * 7 + b') * 7 + c' = q' at hp
  obtain ⟨rfl, rfl⟩ : q = q' ∧ d = d' := by refine ⟨?_, ?_⟩ <;> omega
  rw [← hq'] at hq
  clear hp hq'
  generalize hr : a * 7 + b = r at hq
  generalize hr' : a' * 7 + b' = r' at hq
  obtain ⟨rfl, rfl⟩ : r = r' ∧ c = c' := by refine ⟨?_, ?_⟩ <;> omega
  rw [← hr'] at hr
  clear hq hr'
  obtain ⟨rfl, rfl⟩ : a = a' ∧ b = b' := by refine ⟨?_, ?_⟩ <;> omega
  rfl
/-- The table: what is known of a state is right. -/
def KTab (al : Bool) (t : List Int) : Prop := t.length = 38416 ∧ ∀ k, KOk k → t.getD (kPlace k) 0 = -1 ∨ t.getD (kPlace k) 0 = kS al k
def kTab0 : List Int := List.replicate 38416 (-1)
theorem KTab.start (al : Bool) : KTab al kTab0 := by
  unfold kTab0
  refine ⟨List.length_replicate, fun k hk => Or.inl ?_⟩
  have := kPlace_lt hk
  rw [List.getD_eq_getElem?_getD, List.getElem?_replicate, if_pos this]
  rfl
theorem KTab.put {al : Bool} {t : List Int} (h : KTab al t) {k : KSt} (hk : KOk k) : KTab al (t.set (kPlace k) (kS al k)) := by
  refine ⟨by rw [List.length_set]; exact h.1, fun k' hk' => ?_⟩
  by_cases he : kPlace k = kPlace k'
  · have := kPlace_inj hk hk' he
    subst this
    right
    have := kPlace_lt hk
    rw [List.getD_eq_getElem?_getD, List.getElem?_set_self (by rw [h.1]; exact this)]
    rfl
  · rw [List.getD_eq_getElem?_getD, List.getElem?_set_ne he, ← List.getD_eq_getElem?_getD]
    exact h.2 k' hk'
def kStart (a0 a1 a2 : Int) : KSt := ⟨0, a2, 0, a2, a0, a1⟩
def kAsk (a0 a1 a2 : Int) : Bool := ((decide (1 ≤ a0) && decide (a0 ≤ 3)) && (decide (1 ≤ a1) && decide (a1 ≤ 3))) && (decide (0 ≤ a2) && decide (a2 ≤ 6))
theorem kAsk_true {a0 a1 a2 : Int} (h : kAsk a0 a1 a2 = true) : 1 ≤ a0 ∧ a0 ≤ 3 ∧ 1 ≤ a1 ∧ a1 ≤ 3 ∧ 0 ≤ a2 ∧ a2 ≤ 6 := by
  unfold kAsk at h
  simp only [Bool.and_eq_true, decide_eq_true_eq] at h
  omega
theorem kStart_ok {a0 a1 a2 : Int} (h : kAsk a0 a1 a2 = true) : KOk (kStart a0 a1 a2) := by
  obtain ⟨h1, h2, h3, h4, h5, h6⟩ := kAsk_true h
  refine ⟨?_, ?_, ?_, ?_, ?_, ?_, ?_, ?_, ?_, ?_⟩ <;> simp only [kStart] <;> omega
theorem kStart_val (al : Bool) {a0 a1 a2 : Int} (h : kAsk a0 a1 a2 = true) : kVal al (kStart a0 a1 a2) ≤ 12 ∧ kS al (kStart a0 a1 a2) = kVal al (kStart a0 a1 a2) := by
  obtain ⟨h1, h2, h3, h4, h5, h6⟩ := kAsk_true h
  have hk := kStart_ok h
  have := kVal_le al 12 _ hk (kMu_le hk) (Or.inr h1) (Or.inr h3)
  have := kMu_le hk
  unfold kS
  omega

end Go.Proofs.YteboofglcnceoaaLib
