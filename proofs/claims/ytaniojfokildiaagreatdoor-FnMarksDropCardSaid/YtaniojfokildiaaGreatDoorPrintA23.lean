-- written by this session's own driver (wip/gen.py) with the kit's print and contracts of our own
import Derived.Test.YtaniojfokildiaaGreatDoorPrintA0
import Derived.Test.YtaniojfokildiaaGreatDoorPrintA2
import Derived.Test.YtaniojfokildiaaGreatDoorPrintA3
import Derived.Test.YtaniojfokildiaaGreatDoorPrintA5
import Derived.Test.YtaniojfokildiaaGreatDoorPrintA6
import Derived.Test.YtaniojfokildiaaGreatDoorPrintA7
import Derived.Test.YtaniojfokildiaaGreatDoorPrintA8
import Derived.Test.YtaniojfokildiaaGreatDoorPrintA9
import Derived.Test.YtaniojfokildiaaGreatDoorPrintA10
import Derived.Test.YtaniojfokildiaaGreatDoorPrintA14
import Derived.Test.YtaniojfokildiaaGreatDoorPrintA17
import Derived.Test.YtaniojfokildiaaGreatDoorPrintA18
import Derived.Test.YtaniojfokildiaaGreatDoorPrintA19
import Derived.Test.YtaniojfokildiaaGreatDoorPrintA22
namespace Go.Proofs.YtaniojfokildiaaGreatDoor.PrintA
open Go.RowKit Go.Proofs.YtaniojfokildiaaGreatDoorLib Go.Proofs.YtaniojfokildiaaGreatDoorW.PrintWords Go.Proofs.YtaniojfokildiaaGreatDoorW.PrintLast Go.Proofs.YtaniojfokildiaaGreatDoorW.PrintMore
attribute [local go_sem] max2_int min2_int max_two min_two max_three min_three max_four min_four   -- for this text's walks alone
set_option linter.unusedVariables false
set_option linter.unusedSimpArgs false

/-! behind spec_ParseMarks -/
/-- A floor from f on, d of them, tried from below; and the drops by marks. -/
def linD (b : Int) : Nat → Int → List S65
  | 0, _ => []
  | d + 1, f => if f > b then [⟨f, true⟩] else ⟨f, false⟩ :: linD b d (f + 1)
def mkD (a b : Int) : List Int → Int → List S65
  | [], low => linD b (a - low).toNat (low + 1)
  | m :: r, low => if m > b then ⟨m, true⟩ :: linD b (m - 1 - low).toNat (low + 1) else ⟨m, false⟩ :: mkD a b r m
theorem linD_all (b : Int) : ∀ (d : Nat) (f : Int), f - 1 + d ≤ b → (linD b d f).length = d
  | 0, _, _ => rfl
  | d + 1, f, h => by
    rw [linD, if_neg (by omega), List.length_cons, linD_all b d (f + 1) (by omega)]
theorem linD_cnt (b : Int) : ∀ (d : Nat) (f : Int), cntE (linD b d f) ≤ 1
  | 0, _ => by simp [linD, cntE]
  | d + 1, f => by
    rw [linD]
    have := linD_cnt b d (f + 1)
    split
    · simp [cntE]
    · unfold cntE at this ⊢; rw [List.countP_cons]; simpa using this
theorem mkD_cnt (a b : Int) : ∀ (l : List Int) (low : Int), cntE (mkD a b l low) ≤ 2
  | [], low => by rw [mkD]; have := linD_cnt b (a - low).toNat (low + 1); omega
  | m :: r, low => by
    rw [mkD]
    split
    · have := linD_cnt b (m - 1 - low).toNat (low + 1)
      unfold cntE at this ⊢; rw [List.countP_cons]; simp only [if_true]; omega
    · have := mkD_cnt a b r m
      unfold cntE at this ⊢; rw [List.countP_cons]; simpa using this
theorem tail_is (b high : Int) (hb0 : 0 ≤ b) (hb : b ≤ 100) (hh : high ≤ 100) : ∀ (d k : Nat) (acc : List S65) (f : Int), 1 ≤ f → f ≤ b + 1 → (high - f + 1).toNat = d → d + 1 < k → acc.length + d ≤ 1000 →
    impl_markDrops.l1 k b acc high f = some (acc ++ linD b d f) := by
  intro d
  induction d with
  | zero =>
    intro k acc f h1 h2 h3 hk ha
    obtain ⟨k, rfl⟩ : ∃ m, k = m + 1 := ⟨k - 1, by omega⟩
    rw [impl_markDrops.l1, if_neg (by omega), linD, List.append_nil]
  | succ d ih =>
    intro k acc f h1 h2 h3 hk ha
    obtain ⟨k, rfl⟩ : ∃ m, k = m + 1 := ⟨k - 1, by omega⟩
    have e1 : wrap64 (b + 1) = b + 1 := by unfold wrap64; omega
    have e2 : wrap64 (f + 1) = f + 1 := by clear e1; unfold wrap64; omega
    rw [impl_markDrops.l1, if_pos (by clear e1 e2; omega), e1, if_pos h2, if_pos (by clear e1 e2; omega), e2]
    by_cases c : f > b
    · obtain ⟨k, rfl⟩ : ∃ m, k = m + 1 := ⟨k - 1, by omega⟩
      rw [linD, if_pos c, decide_eq_true c, impl_markDrops.l1, e1]
      by_cases c2 : f + 1 ≤ high
      · rw [if_pos c2, if_neg (by clear e1 e2; omega)]
      · rw [if_neg c2]
    · rw [linD, if_neg c, decide_eq_false c, ih k (acc ++ [(⟨f, false⟩ : S65)]) (f + 1) (by clear e1 e2; omega) (by clear e1 e2; omega) (by clear e1 e2; omega) (by clear e1 e2; omega) (by clear e1 e2; simp; omega)]
      simp
theorem mkDrops_is (l : List Int) (a b : Int) (ha : a ≤ 100) (hb0 : 0 ≤ b) (hb : b ≤ a) (hl : l.length ≤ 100) (hm : ∀ x ∈ l, 1 ≤ x ∧ x ≤ a) : ∀ (d k : Nat) (acc : List S65) (low : Int) (i : Nat), 0 ≤ low → low ≤ b → i ≤ l.length → l.length - i = d → d + 200 < k → acc.length ≤ i →
    impl_markDrops.l0 k b acc low a l (l.length : Int) (i : Int) = some (acc ++ mkD a b (l.drop i) low) := by
  intro d
  induction d with
  | zero =>
    intro k acc low i h1 h2 h3 hd hk hacc
    obtain ⟨k, rfl⟩ : ∃ m, k = m + 1 := ⟨k - 1, by omega⟩
    obtain ⟨k, rfl⟩ : ∃ m, k = m + 1 := ⟨k - 1, by omega⟩
    have e : wrap64 (low + 1) = low + 1 := by unfold wrap64; omega
    rw [impl_markDrops.l0, if_neg (by clear e; omega), impl_markDrops.j1, e, tail_is b a hb0 (by clear e; omega) ha (a - low).toNat k acc (low + 1) (by clear e; omega) (by clear e; omega) (by clear e; omega) (by clear e; omega) (by clear e; omega)]
    rw [List.drop_of_length_le (by omega), mkD]
  | succ d ih =>
    intro k acc low i h1 h2 h3 hd hk hacc
    obtain ⟨k, rfl⟩ : ∃ m, k = m + 1 := ⟨k - 1, by omega⟩
    have hlt : i < l.length := by omega
    have e2 : wrap64 ((i : Int) + 1) = ((i + 1 : Nat) : Int) := by unfold wrap64; omega
    have hr := rd_nat l i hlt
    have hx := hm l[i] (List.getElem_mem hlt)
    have hi1 : (i : Int) < (l.length : Int) := by omega
    have hi0 : (0 : Int) ≤ (i : Int) := by omega
    have hL : acc.length < 8796093022208 := by omega
    rw [impl_markDrops.l0, if_pos hi1, if_pos hi0, if_pos hi1, if_pos hL, if_pos hL, e2, hr, List.drop_eq_getElem_cons hlt, mkD]
    generalize l[i] = x at hx
    by_cases c : x > b
    · obtain ⟨k, rfl⟩ : ∃ m, k = m + 1 := ⟨k - 1, by omega⟩
      have e : wrap64 (low + 1) = low + 1 := by clear e2; unfold wrap64; omega
      have e3 : wrap64 (x - 1) = x - 1 := by clear e2 e; unfold wrap64; omega
      rw [if_pos c, if_pos c, impl_markDrops.j1, e, e3, tail_is b (x - 1) hb0 (by clear e e2 e3; omega) (by clear e e2 e3; omega) (x - 1 - low).toNat k (acc ++ [(⟨x, true⟩ : S65)]) (low + 1) (by clear e e2 e3; omega) (by clear e e2 e3; omega) (by clear e e2 e3; omega) (by clear e e2 e3; omega) (by clear e e2 e3; simp; omega)]
      simp
    · rw [if_neg c, if_neg c, ih k (acc ++ [(⟨x, false⟩ : S65)]) x (i + 1) (by clear e2; omega) (by clear e2; omega) (by clear e2; omega) (by clear e2; omega) (by clear e2; omega) (by clear e2; simp; omega)]
      simp
theorem drD_is (l : List Int) (a b : Int) (ha : a ≤ 100) (hb0 : 0 ≤ b) (hb : b ≤ a) (hg : risL 1 a 0 l = true) (k : Nat) (hk : 400 < k) :
    spec_stDrops.f k a l b = some (mkD a b l 0) ∧ impl_markDrops.f k a l b = some (mkD a b l 0) ∧ ((mkD a b l 0).length : Int) = dropN a l b ∧ (mkD a b l 0).length ≤ 1000 := by
  obtain ⟨r, q1, q2, q3, q4⟩ := dropN_is a l b ha hb0 hb hg k hk
  have hl := risL_length 1 a l 0 hg (by omega)
  have h := mkDrops_is l a b ha hb0 hb (by omega) (risL_mem 1 a l 0 hg) l.length k [] 0 0 (by omega) (by omega) (by omega) (by omega) (by omega) (by simp)
  rw [List.nil_append, List.drop_zero] at h
  have he : impl_markDrops.f k a l b = some (mkD a b l 0) := h
  obtain rfl : r = mkD a b l 0 := Option.some.inj (q2.symm.trans he)
  exact ⟨q1, q2, q3, q4⟩
/-- Drops that narrow lo .. hi down to b. -/
def okD (b : Int) : Int → Int → List S65 → Prop
  | lo, hi, [] => lo = b ∧ hi = b
  | lo, hi, d :: r => lo < d.f0 ∧ d.f0 ≤ hi ∧ ((d.f1 = true ∧ okD b lo (d.f0 - 1) r) ∨ (d.f1 = false ∧ okD b d.f0 hi r))
theorem lin_ok (b : Int) : ∀ (d : Nat) (f lo hi : Int), f ≤ b + 1 → lo = f - 1 → hi = f - 1 + d → b ≤ hi → okD b lo hi (linD b d f)
  | 0, f, lo, hi, h1, h2, h3, h4 => by rw [linD]; exact ⟨by omega, by omega⟩
  | d + 1, f, lo, hi, h1, h2, h3, h4 => by
    rw [linD]
    split
    · exact ⟨by show lo < f; omega, by show f ≤ hi; omega, Or.inl ⟨rfl, by show lo = b; omega, by show f - 1 = b; omega⟩⟩
    · exact ⟨by show lo < f; omega, by show f ≤ hi; omega, Or.inr ⟨rfl, lin_ok b d (f + 1) f hi (by omega) (by omega) (by omega) h4⟩⟩
theorem mk_ok (a b : Int) (hb : b ≤ a) : ∀ (l : List Int) (low : Int), risL 1 a low l = true → 0 ≤ low → low ≤ b → okD b low a (mkD a b l low)
  | [], low, _, h1, h2 => by rw [mkD]; exact lin_ok b _ _ _ _ (by omega) (by omega) (by omega) (by omega)
  | m :: r, low, h, h1, h2 => by
    simp only [risL, Bool.and_eq_true, decide_eq_true_eq] at h
    rw [mkD]
    split
    · exact ⟨by show low < m; omega, by show m ≤ a; omega, Or.inl ⟨rfl, lin_ok b _ _ _ _ (by omega) (by omega) (by show m - 1 = _; omega) (by show b ≤ m - 1; omega)⟩⟩
    · exact ⟨by show low < m; omega, by show m ≤ a; omega, Or.inr ⟨rfl, mk_ok a b hb r m h.2.2 (by omega) (by omega)⟩⟩
theorem okD_fold (b : Int) : ∀ (ds : List S65) (lo hi : Int), okD b lo hi ds → ds.foldl opStep (lo, hi) = (b, b)
  | [], lo, hi, h => by obtain ⟨rfl, rfl⟩ := h; rfl
  | d :: r, lo, hi, h => by
    obtain ⟨h1, h2, h3⟩ := h
    rw [List.foldl_cons]
    rcases h3 with ⟨h3, h4⟩ | ⟨h3, h4⟩
    · rw [show opStep (lo, hi) d = (lo, d.f0 - 1) by unfold opStep; rw [if_pos h3]; show (lo, min hi (d.f0 - 1)) = _; rw [show min hi (d.f0 - 1) = d.f0 - 1 by omega]]
      exact okD_fold b r _ _ h4
    · rw [show opStep (lo, hi) d = (d.f0, hi) by unfold opStep; rw [if_neg (by rw [h3]; decide)]; show (max lo d.f0, hi) = _; rw [show max lo d.f0 = d.f0 by omega]]
      exact okD_fold b r _ _ h4
theorem okD_in (b : Int) : ∀ (ds : List S65) (lo hi : Int), okD b lo hi ds → ∀ d ∈ ds, lo < d.f0 ∧ d.f0 ≤ hi
  | [], lo, hi, _, d, hd => by simp at hd
  | d :: r, lo, hi, h, x, hx => by
    obtain ⟨h1, h2, h3⟩ := h
    rcases List.mem_cons.1 hx with rfl | hx
    · exact ⟨h1, h2⟩
    · rcases h3 with ⟨_, h4⟩ | ⟨_, h4⟩
      · have := okD_in b r _ _ h4 x hx; omega
      · have := okD_in b r _ _ h4 x hx; omega
theorem okD_busy (b : Int) : ∀ (ds : List S65) (lo hi : Int), okD b lo hi ds → ∀ i, i < ds.length → (ds.take i).foldl opStep (lo, hi) ≠ (ds.take (i + 1)).foldl opStep (lo, hi)
  | [], lo, hi, _, i, hi' => by simp at hi'
  | d :: r, lo, hi, h, 0, _ => by
    obtain ⟨h1, h2, h3⟩ := h
    simp only [List.take_zero, List.take_succ_cons, List.foldl_cons, List.foldl_nil]
    rcases h3 with ⟨h3, _⟩ | ⟨h3, _⟩
    · unfold opStep; rw [if_pos h3]; intro he; have := congrArg Prod.snd he; simp only at this; omega
    · unfold opStep; rw [if_neg (by rw [h3]; decide)]; intro he; have := congrArg Prod.fst he; simp only at this; omega
  | d :: r, lo, hi, h, i + 1, hl => by
    obtain ⟨h1, h2, h3⟩ := h
    simp only [List.take_succ_cons, List.foldl_cons]
    rw [List.length_cons] at hl
    rcases h3 with ⟨h3, h4⟩ | ⟨h3, h4⟩
    · rw [show opStep (lo, hi) d = (lo, d.f0 - 1) by unfold opStep; rw [if_pos h3]; show (lo, min hi (d.f0 - 1)) = _; rw [show min hi (d.f0 - 1) = d.f0 - 1 by omega]]
      exact okD_busy b r _ _ h4 i (by omega)
    · rw [show opStep (lo, hi) d = (d.f0, hi) by unfold opStep; rw [if_neg (by rw [h3]; decide)]; show (max lo d.f0, hi) = _; rw [show max lo d.f0 = d.f0 by omega]]
      exact okD_busy b r _ _ h4 i (by omega)
/-- A least worst case of w tells at most w (w + 1) / 2 floors. -/
theorem mk_least (a : Int) : ∀ (l : List Int) (low : Int) (w : Nat), risL 1 a low l = true → 0 ≤ low → low ≤ a → (∀ b, low ≤ b → b ≤ a → (mkD a b l low).length ≤ w) → 2 * (a - low).toNat ≤ w * (w + 1)
  | [], low, w, _, h1, h2, h => by
    have h3 := h a h2 (Int.le_refl _)
    rw [mkD, linD_all a _ _ (by omega)] at h3
    cases w with
    | zero => omega
    | succ v =>
      have h5 : (v + 1) * 2 ≤ (v + 1) * (v + 1 + 1) := Nat.mul_le_mul_left (v + 1) (by omega)
      omega
  | m :: r, low, w, hr, h1, h2, h => by
    simp only [risL, Bool.and_eq_true, decide_eq_true_eq] at hr
    have h3 := h (m - 1) (by omega) (by omega)
    rw [mkD, if_pos (by omega), List.length_cons, linD_all _ _ _ (by omega)] at h3
    obtain ⟨v, rfl⟩ : ∃ v, w = v + 1 := ⟨w - 1, by omega⟩
    have ih := mk_least a r m v hr.2.2 (by omega) hr.1.2 (fun b hb1 hb2 => by
      have h4 := h b (by omega) hb2
      rw [mkD, if_neg (by omega), List.length_cons] at h4
      omega)
    have e : (v + 1) * (v + 1 + 1) = v * (v + 1) + 2 * (v + 1) := by rw [← Nat.add_mul, Nat.mul_comm, Nat.add_comm v 2]
    rw [e]
    omega
theorem bindOpen (n b : Int) (ds : List S65) (h0 : 0 ≤ n) (hn : n ≤ 100) (h : okD b 0 n ds) (hl : ds.length ≤ 1000) (hb : b ≤ b) : impl_LeftOpen.f 3000 n ds = some (b, b, true) := by
  have hin := okD_in b ds 0 n h
  have ho := okD_fold b ds 0 n h
  unfold impl_LeftOpen.f impl_AreDrops.f
  have hall : ds.all (fun d => decide (1 ≤ d.f0) && decide (d.f0 ≤ n)) = true := by
    rw [List.all_eq_true]
    intro d hd
    have := hin d hd
    rw [decide_eq_true (by omega), decide_eq_true (by omega)]; rfl
  rw [if_pos (by omega), hall, decide_eq_true (by omega), decide_eq_true (by omega), decide_eq_true (by omega), Option.bind_some, if_pos (show (true && true && true && true) = true from rfl)]
  rw [open_is2 n ds (fun d hd => by have := hin d hd; omega) (by omega) 3000 (by omega), Option.bind_some]
  rw [ho, if_neg (by omega)]
theorem idle_l0 (n b : Int) (ds : List S65) (h0 : 0 ≤ n) (hn : n ≤ 100) (h : okD b 0 n ds) (hl : ds.length ≤ 1000) : ∀ (d k i : Nat), ds.length - i = d → i ≤ ds.length → d + 1001 < k →
    impl_IdleDrops.l0 k n ds [] (ds.length : Int) (i : Int) = some ([], true)
  | 0, k, i, hd, hi, hk => by
    obtain ⟨k, rfl⟩ : ∃ m, k = m + 1 := ⟨k - 1, by omega⟩
    rw [impl_IdleDrops.l0, if_neg (by omega)]
  | d + 1, k, i, hd, hi, hk => by
    obtain ⟨k, rfl⟩ : ∃ m, k = m + 1 := ⟨k - 1, by omega⟩
    have hin := okD_in b ds 0 n h
    have e2 : wrap64 ((i : Int) + 1) = ((i + 1 : Nat) : Int) := by unfold wrap64; omega
    have o1 := open_is2 n (ds.take i) (fun d hd => by have := hin d (List.mem_of_mem_take hd); omega) (by rw [List.length_take]; omega) k (by rw [List.length_take]; omega)
    have o2 := open_is2 n (ds.take (i + 1)) (fun d hd => by have := hin d (List.mem_of_mem_take hd); omega) (by rw [List.length_take]; omega) k (by rw [List.length_take]; omega)
    have hne := okD_busy b ds 0 n h i (by omega)
    have ih := idle_l0 n b ds h0 hn h hl d k (i + 1) (by omega) (by omega) (by omega)
    rw [impl_IdleDrops.l0, if_pos (by clear e2; omega), if_pos (by clear e2; omega), if_pos (by clear e2; omega), Int.toNat_natCast, o1, Option.bind_some, e2, if_pos (by clear e2; omega), if_pos (by clear e2; omega), Int.toNat_natCast, o2, Option.bind_some]
    by_cases c1 : ((ds.take (i + 1)).foldl opStep (0, n)).1 = ((ds.take i).foldl opStep (0, n)).1
    · by_cases c2 : ((ds.take (i + 1)).foldl opStep (0, n)).2 = ((ds.take i).foldl opStep (0, n)).2
      · exact absurd (Prod.ext c1.symm c2.symm) hne
      · rw [if_pos c1, if_neg c2]; exact ih
    · rw [if_neg c1]; exact ih
theorem idle_is (n b : Int) (ds : List S65) (h0 : 0 ≤ n) (hn : n ≤ 100) (h : okD b 0 n ds) (hl : ds.length ≤ 1000) : impl_IdleDrops.f 3000 n ds = some ([], true) := by
  unfold impl_IdleDrops.f
  rw [bindOpen n b ds h0 hn h hl (Int.le_refl _), Option.bind_some, if_pos rfl]
  exact idle_l0 n b ds h0 hn h hl ds.length 3000 0 (by omega) (by omega) (by omega)
/-- The sums. -/
def smF (G : Int → Int) : Nat → Int
  | 0 => 0
  | n + 1 => smF G n + G n
theorem dropN_range (a : Nat) (l : List Int) (ha : a ≤ 100) (hg : risL 1 a 0 l = true) (b : Nat) (hb : b ≤ a) : 0 ≤ dropN a l b ∧ dropN a l b ≤ 1000 := by
  obtain ⟨r, _, _, h1, h2⟩ := dropN_is a l b (by omega) (by omega) (by omega) hg 1000 (by omega)
  omega
theorem smF_ok (a : Nat) (l : List Int) (ha : a ≤ 100) (hg : risL 1 a 0 l = true) : ∀ n : Nat, n ≤ a + 1 → 0 ≤ smF (dropN a l) n ∧ smF (dropN a l) n ≤ 1000 * n
  | 0, _ => by simp [smF]
  | n + 1, hn => by
    have := smF_ok a l ha hg n (by omega)
    have := dropN_range a l ha hg n (by omega)
    rw [smF]; omega
theorem sum_l0 (a : Nat) (l : List Int) (ha : a ≤ 100) (hg : risL 1 a 0 l = true) : ∀ (d k i : Nat), a + 1 - i = d → i ≤ a + 1 → 400 + d < k →
    impl_marked.l0 k a l (mxF (dropN a l) i) (smF (dropN a l) i) ((a : Int) + 1) i = some (mxF (dropN a l) (a + 1), smF (dropN a l) (a + 1))
  | 0, k, i, hd, hi, hk => by
    obtain ⟨k, rfl⟩ : ∃ m, k = m + 1 := ⟨k - 1, by omega⟩
    obtain rfl : i = a + 1 := by omega
    rw [impl_marked.l0, if_neg (by omega)]
  | d + 1, k, i, hd, hi, hk => by
    obtain ⟨k, rfl⟩ : ∃ m, k = m + 1 := ⟨k - 1, by omega⟩
    obtain ⟨r, _, hr, hl, _⟩ := dropN_is a l i (by omega) (by omega) (by omega) hg k (by omega)
    have ih := sum_l0 a l ha hg d k (i + 1) (by omega) (by omega) (by omega)
    have h1 := smF_ok a l ha hg i (by omega)
    have h2 := dropN_range a l ha hg i (by omega)
    have e2 : wrap64 ((i : Int) + 1) = ((i + 1 : Nat) : Int) := by unfold wrap64; omega
    have e4 : wrap64 (smF (dropN a l) i + dropN a l i) = smF (dropN a l) (i + 1) := by clear e2; rw [smF]; unfold wrap64; omega
    have e3 : mx (mxF (dropN a l) i) (dropN a l i) = mxF (dropN a l) (i + 1) := by rw [mxF]; unfold mx; omega
    rw [impl_marked.l0, if_pos (by clear e2 e4; omega), hr, Option.bind_some, hl, e2, e3, e4]
    exact ih
theorem marked_sum (a : Nat) (l : List Int) (ha : a ≤ 100) (hg : risL 1 a 0 l = true) (k : Nat) (hk : 600 < k) : impl_marked.f k a l = some (mxF (dropN a l) (a + 1), smF (dropN a l) (a + 1)) := by
  have e2 : wrap64 ((a : Int) + 1) = (a : Int) + 1 := by unfold wrap64; omega
  unfold impl_marked.f
  rw [e2]
  exact sum_l0 a l ha hg (a + 1) k 0 (by omega) (by omega) (by omega)
theorem stSum_l (a : Nat) (l : List Int) (ha : a ≤ 100) (hg : risL 1 a 0 l = true) : ∀ (d k i : Nat), a + 1 - i = d → i ≤ a + 1 → 400 + d < k →
    spec_stSum.l0 k a l (smF (dropN a l) i) i = some (smF (dropN a l) (a + 1))
  | 0, k, i, hd, hi, hk => by
    obtain ⟨k, rfl⟩ : ∃ m, k = m + 1 := ⟨k - 1, by omega⟩
    obtain rfl : i = a + 1 := by omega
    rw [spec_stSum.l0, if_neg (by omega)]
  | d + 1, k, i, hd, hi, hk => by
    obtain ⟨k, rfl⟩ : ∃ m, k = m + 1 := ⟨k - 1, by omega⟩
    obtain ⟨r, hr, _, hl, _⟩ := dropN_is a l i (by omega) (by omega) (by omega) hg k (by omega)
    have ih := stSum_l a l ha hg d k (i + 1) (by omega) (by omega) (by omega)
    have h1 := smF_ok a l ha hg i (by omega)
    have h2 := dropN_range a l ha hg i (by omega)
    have e2 : wrap64 ((i : Int) + 1) = ((i + 1 : Nat) : Int) := by unfold wrap64; omega
    have e4 : wrap64 (smF (dropN a l) i + dropN a l i) = smF (dropN a l) (i + 1) := by clear e2; rw [smF]; unfold wrap64; omega
    rw [spec_stSum.l0, if_pos (by clear e2 e4; omega), hr, Option.bind_some, hl, e2, e4]
    exact ih
theorem stSum_is (a : Nat) (l : List Int) (ha : a ≤ 100) (hg : risL 1 a 0 l = true) (k : Nat) (hk : 600 < k) : spec_stSum.f k a l = some (smF (dropN a l) (a + 1)) := by
  unfold spec_stSum.f
  exact stSum_l a l ha hg (a + 1) k 0 (by omega) (by omega) (by omega)
theorem few2 (a : Nat) (w : Nat) (hw : w ≤ 100) (h : 2 * a ≤ w * (w + 1)) : few 2 (a : Int) ≤ w := by
  rw [few_le_iff 2 _ w (by omega)]
  have h2 : ∀ t : Nat, t ≤ 100 → rch t 1 = t := by
    intro t
    induction t with
    | zero => intro _; rfl
    | succ t ih => intro ht; rw [rch, ih (by omega)]; have : rch t 0 = 0 := by cases t <;> rfl
                   omega
  have h3 : ∀ t : Nat, t ≤ 100 → 2 * rch t 2 = ((t * (t + 1) : Nat) : Int) := by
    intro t
    induction t with
    | zero => intro _; rfl
    | succ t ih =>
      intro ht
      have h4 := ih (by omega)
      have h5 := h2 t (by omega)
      have e : (t + 1) * (t + 1 + 1) = t * (t + 1) + 2 * (t + 1) := by rw [← Nat.add_mul, Nat.mul_comm, Nat.add_comm t 2]
      have h6 : t * (t + 1) ≤ 100 * 101 := Nat.mul_le_mul (by omega) (by omega)
      have h7 : rch (t + 1) 2 = min 1000000001 (rch t 1 + rch t 2 + 1) := rfl
      rw [e, h7, h5]
      omega
  have := h3 w hw
  omega
/-- The greatest of 0 and G 0, .., G n. -/
def mxG (G : Int → Int) : Nat → Int
  | 0 => 0
  | n + 1 => max (mxG G n) (G n)
theorem mxG_ge (G : Int → Int) : ∀ n b : Nat, b < n → G b ≤ mxG G n
  | n + 1, b, h => by
    rw [mxG]
    by_cases e : b = n
    · subst e; omega
    · have := mxG_ge G n b (by omega); omega
/-- All numbers below n at which G is m. -/
def eqG (G : Int → Int) (m : Int) : Nat → List Int
  | 0 => []
  | n + 1 => if G n = m then eqG G m n ++ [(n : Int)] else eqG G m n
theorem eqG_none (G : Int → Int) (m : Int) : ∀ n : Nat, (∀ b : Nat, b < n → G b < m) → eqG G m n = []
  | 0, _ => rfl
  | n + 1, h => by
    rw [eqG, if_neg (by have := h n (by omega); omega)]
    exact eqG_none G m n (fun b hb => h b (by omega))
theorem eqG_len (G : Int → Int) (m : Int) : ∀ n : Nat, (eqG G m n).length ≤ n
  | 0 => Nat.le_refl _
  | n + 1 => by
    rw [eqG]
    have := eqG_len G m n
    split
    · simp; omega
    · omega
theorem greatL_is (G : Int → Int) (hG : ∀ b, 0 ≤ G b) (n : Nat) : ∀ (d i : Nat), n + 1 - i = d → i ≤ n + 1 → 1 ≤ i → greatL G n d i (eqG G (mxG G i) i) (mxG G i) = eqG G (mxG G (n + 1)) (n + 1)
  | 0, i, hd, hi, _ => by
    obtain rfl : i = n + 1 := by omega
    rfl
  | d + 1, i, hd, hi, h1 => by
    have e3 : ((i : Int) + 1) = ((i + 1 : Nat) : Int) := by omega
    rw [greatL, if_pos (show (i : Int) ≤ (n : Int) by omega), e3]
    have ih := greatL_is G hG n d (i + 1) (by omega) (by omega) (by omega)
    have hs : mxG G (i + 1) = max (mxG G i) (G i) := rfl
    by_cases h : G i > mxG G i
    · rw [if_pos h]
      rw [hs, show max (mxG G i) (G i) = G i by omega] at ih
      rw [← ih]
      congr 1
      rw [eqG, if_pos rfl, eqG_none G (G i) i (fun b hb => by have := mxG_ge G i b hb; omega)]; rfl
    · rw [if_neg h]
      rw [hs, show max (mxG G i) (G i) = mxG G i by omega, eqG] at ih
      by_cases h2 : G i = mxG G i
      · rw [if_pos h2]; rw [if_pos h2] at ih; exact ih
      · rw [if_neg h2]; rw [if_neg h2] at ih; exact ih
theorem greatL_all (G : Int → Int) (hG : ∀ b, 0 ≤ G b) (n : Nat) : greatL G n (n + 1) 0 [] (-1) = eqG G (mxG G (n + 1)) (n + 1) := by
  have h0 := hG 0
  have hm : mxG G 1 = G 0 := by simp only [mxG]; have : G ((0 : Nat) : Int) = G 0 := rfl; rw [this]; omega
  have h := greatL_is G hG n n 1 (by omega) (by omega) (by omega)
  rw [greatL, if_pos (by omega), if_pos (by omega), ← h, hm]
  congr 1
  rw [eqG, if_pos (show G ((0 : Nat) : Int) = G 0 from rfl)]; rfl
theorem mkN_0 (k : Nat) (a : Int) (l : List Int) (b : Int) : 0 ≤ mkN k a l b := by unfold mkN; split <;> omega
theorem stWorst_l0 (a : Nat) (l : List Int) (K : Nat) (hK : 400 < K) (hs : ∀ b : Nat, b ≤ a → ∀ k, 400 < k → ∃ r, spec_stDrops.f k a l b = some r ∧ (r.length : Int) = mkN K a l b ∧ r.length ≤ 1000) (ha : a ≤ 100) : ∀ (d k i : Nat), a + 1 - i = d → i ≤ a + 1 → 400 + d < k →
    spec_stWorst.l0 k a l (mxG (mkN K a l) i) i = some (mxG (mkN K a l) (a + 1))
  | 0, k, i, hd, hi, hk => by
    obtain ⟨k, rfl⟩ : ∃ m, k = m + 1 := ⟨k - 1, by omega⟩
    obtain rfl : i = a + 1 := by omega
    rw [spec_stWorst.l0, if_neg (by omega)]
  | d + 1, k, i, hd, hi, hk => by
    obtain ⟨k, rfl⟩ : ∃ m, k = m + 1 := ⟨k - 1, by omega⟩
    obtain ⟨r, hr, hl, _⟩ := hs i (by omega) k (by omega)
    have ih := stWorst_l0 a l K hK hs ha d k (i + 1) (by omega) (by omega) (by omega)
    have e2 : wrap64 ((i : Int) + 1) = ((i + 1 : Nat) : Int) := by unfold wrap64; omega
    rw [spec_stWorst.l0, if_pos (by clear e2; omega), hr, Option.bind_some, spec_l1Most_is, Option.bind_some, e2, hl]
    exact ih
theorem worst_l0 (a : Nat) (l : List Int) (m : Int) (K : Nat) (hs : ∀ b : Nat, b ≤ a → ∀ k, 400 < k → ∃ r, spec_stDrops.f k a l b = some r ∧ (r.length : Int) = mkN K a l b ∧ r.length ≤ 1000) (ha : a ≤ 100) : ∀ (d k i : Nat), a + 1 - i = d → i ≤ a + 1 → 400 + d < k →
    spec_WorstMarked.l0 k a l m (eqG (mkN K a l) m i) i = some (eqG (mkN K a l) m (a + 1), true)
  | 0, k, i, hd, hi, hk => by
    obtain ⟨k, rfl⟩ : ∃ m, k = m + 1 := ⟨k - 1, by omega⟩
    obtain rfl : i = a + 1 := by omega
    rw [spec_WorstMarked.l0, if_neg (by omega)]
  | d + 1, k, i, hd, hi, hk => by
    obtain ⟨k, rfl⟩ : ∃ m, k = m + 1 := ⟨k - 1, by omega⟩
    obtain ⟨r, hr, hl, _⟩ := hs i (by omega) k (by omega)
    have ih := worst_l0 a l m K hs ha d k (i + 1) (by omega) (by omega) (by omega)
    have hlen := eqG_len (mkN K a l) m i
    have e2 : wrap64 ((i : Int) + 1) = ((i + 1 : Nat) : Int) := by unfold wrap64; omega
    rw [spec_WorstMarked.l0, if_pos (by clear e2; omega), hr, Option.bind_some, hl, e2]
    rw [eqG] at ih
    by_cases h : mkN K a l i = m
    · rw [if_pos h, if_pos (by clear e2; omega)]
      rw [if_pos h] at ih; exact ih
    · rw [if_neg h]
      rw [if_neg h] at ih; exact ih
theorem risL_weak (lo hi : Int) : ∀ (l : List Int) (p p' : Int), p' ≤ p → risL lo hi p l = true → risL lo hi p' l = true
  | [], _, _, _, _ => rfl
  | x :: r, p, p', hp, h => by
    simp only [risL, Bool.and_eq_true, decide_eq_true_eq] at h ⊢
    exact ⟨h.1, by omega, h.2.2⟩
theorem risL_erase (lo hi : Int) : ∀ (l : List Int) (p : Int) (k : Nat), risL lo hi p l = true → risL lo hi p (l.eraseIdx k) = true
  | [], _, _, _ => by simp [risL]
  | x :: r, p, 0, h => by
    simp only [risL, Bool.and_eq_true, decide_eq_true_eq] at h
    exact risL_weak lo hi r x p (by omega) h.2.2
  | x :: r, p, k + 1, h => by
    simp only [risL, Bool.and_eq_true, decide_eq_true_eq, List.eraseIdx_cons_succ] at h ⊢
    exact ⟨h.1, h.2.1, risL_erase lo hi r x k h.2.2⟩
theorem stLess_is (l : List Int) (k : Nat) (hk : k < l.length) (hl : l.length ≤ 1000) : spec_stLess.f l k = some (l.eraseIdx k) := by
  have e1 : wrap64 ((k : Int) + 1) = ((k + 1 : Nat) : Int) := by unfold wrap64; omega
  unfold spec_stLess.f
  rw [if_pos (by clear e1; omega), if_pos (by clear e1; omega), Int.toNat_natCast, spec_l1Own_is _ (by simp; omega), Option.bind_some, e1, if_pos (by clear e1; omega), if_pos (by clear e1; omega), Int.toNat_natCast, if_pos (by simp; clear e1; omega), List.eraseIdx_eq_take_drop_succ]
/-- The marks up to i without which the worst case is the same. -/
def hmL (a : Nat) (l : List Int) : Nat → List Int
  | 0 => []
  | i + 1 => if mxF (dropN a (l.eraseIdx i)) (a + 1) = mxF (dropN a l) (a + 1) then hmL a l i ++ [(i : Int)] else hmL a l i
theorem hmL_len (a : Nat) (l : List Int) : ∀ i, (hmL a l i).length ≤ i
  | 0 => Nat.le_refl _
  | i + 1 => by
    have := hmL_len a l i
    rw [hmL]
    split
    · simp; omega
    · omega
theorem spec_hm (a : Nat) (l : List Int) (ha : a ≤ 100) (hl : l.length ≤ 1000) (hg : risL 1 a 0 l = true) : ∀ (d k i : Nat), l.length - i = d → i ≤ l.length → 1000 + d < k →
    spec_HarmlessMarks.l0 k a l (hmL a l i) (l.length : Int) i = some (hmL a l l.length, true)
  | 0, k, i, hd, hi, hk => by
    obtain ⟨k, rfl⟩ : ∃ m, k = m + 1 := ⟨k - 1, by omega⟩
    obtain rfl : i = l.length := by omega
    rw [spec_HarmlessMarks.l0, if_neg (by omega)]
  | d + 1, k, i, hd, hi, hk => by
    obtain ⟨k, rfl⟩ : ∃ m, k = m + 1 := ⟨k - 1, by omega⟩
    have e2 : wrap64 ((i : Int) + 1) = ((i + 1 : Nat) : Int) := by unfold wrap64; omega
    have ih := spec_hm a l ha hl hg d k (i + 1) (by omega) (by omega) (by omega)
    have hlen := hmL_len a l i
    rw [spec_HarmlessMarks.l0, if_pos (by clear e2; omega), stLess_is l i (by clear e2; omega) hl, Option.bind_some, stWorst_is a _ ha (risL_erase 1 a l 0 i hg) k (by clear e2; omega), Option.bind_some, stWorst_is a l ha hg k (by clear e2; omega), Option.bind_some, e2]
    rw [hmL] at ih
    by_cases hc : mxF (dropN a (l.eraseIdx i)) (a + 1) = mxF (dropN a l) (a + 1)
    · rw [if_pos hc, if_pos (by clear e2; omega)]
      rw [if_pos hc] at ih
      exact ih
    · rw [if_neg hc]
      rw [if_neg hc] at ih
      exact ih
theorem impl_hm (a : Nat) (l : List Int) (ha : a ≤ 100) (hl : l.length ≤ 1000) (hg : risL 1 a 0 l = true) : ∀ (d k i : Nat), l.length - i = d → i ≤ l.length → 1000 + d < k →
    impl_HarmlessMarks.l0 k a l (mxF (dropN a l) (a + 1)) (hmL a l i) (l.length : Int) i = some (hmL a l l.length, true)
  | 0, k, i, hd, hi, hk => by
    obtain ⟨k, rfl⟩ : ∃ m, k = m + 1 := ⟨k - 1, by omega⟩
    obtain rfl : i = l.length := by omega
    rw [impl_HarmlessMarks.l0, if_neg (by omega)]
  | d + 1, k, i, hd, hi, hk => by
    obtain ⟨k, rfl⟩ : ∃ m, k = m + 1 := ⟨k - 1, by omega⟩
    have e2 : wrap64 ((i : Int) + 1) = ((i + 1 : Nat) : Int) := by unfold wrap64; omega
    have ih := impl_hm a l ha hl hg d k (i + 1) (by omega) (by omega) (by omega)
    have hlen := hmL_len a l i
    obtain ⟨s, hm⟩ := marked_is a (l.eraseIdx i) ha (risL_erase 1 a l 0 i hg) k (by omega)
    have hw : impl_without.f l i = some (l.eraseIdx i) := by unfold impl_without.f; rw [if_pos (by omega), Int.toNat_natCast]
    rw [impl_HarmlessMarks.l0, if_pos (by clear e2; omega), hw, Option.bind_some, hm, Option.bind_some, e2]
    rw [hmL] at ih
    by_cases hc : mxF (dropN a (l.eraseIdx i)) (a + 1) = mxF (dropN a l) (a + 1)
    · rw [if_pos hc, if_pos (by clear e2; omega)]
      rw [if_pos hc] at ih
      exact ih
    · rw [if_neg hc]
      rw [if_neg hc] at ih
      exact ih
def insL (m : Int) : List Int → List Int
  | [] => [m]
  | x :: r => if x < m then x :: insL m r else m :: x :: r
theorem insL_perm (m : Int) : ∀ l, (insL m l).Perm (l ++ [m])
  | [] => List.Perm.refl _
  | x :: r => by
    rw [insL]
    split
    · exact (insL_perm m r).cons x
    · exact (List.perm_append_comm (l₁ := [m]) (l₂ := x :: r))
theorem insL_ris (a m : Int) (h1 : 1 ≤ m) (h2 : m ≤ a) : ∀ (l : List Int) (p : Int), risL 1 a p l = true → m ∉ l → p < m → risL 1 a p (insL m l) = true
  | [], p, _, _, hp => by simp [insL, risL, h1, h2, hp]
  | x :: r, p, h, hm, hp => by
    have h' := h
    simp only [risL, Bool.and_eq_true, decide_eq_true_eq] at h
    rw [List.mem_cons, not_or] at hm
    rw [insL]
    split
    · rename_i hx
      simp only [risL, Bool.and_eq_true, decide_eq_true_eq]
      exact ⟨h.1, h.2.1, insL_ris a m h1 h2 r x h.2.2 hm.2 hx⟩
    · rename_i hx
      have hx2 : m < x := by
        have h3 := hm.1
        omega
      simp only [risL, Bool.and_eq_true, decide_eq_true_eq]
      exact ⟨⟨h1, h2⟩, hp, h.1, hx2, h.2.2⟩
theorem risL_pair (lo hi : Int) : ∀ (l : List Int) (p : Int), risL lo hi p l = true → (p :: l).Pairwise (fun x y => x < y)
  | [], p, _ => by simp
  | x :: r, p, h => by
    simp only [risL, Bool.and_eq_true, decide_eq_true_eq] at h
    have ih := risL_pair lo hi r x h.2.2
    rw [List.pairwise_cons]
    refine ⟨fun y hy => ?_, ih⟩
    rcases List.mem_cons.1 hy with rfl | hy
    · exact h.2.1
    · have := (List.pairwise_cons.1 ih).1 y hy
      omega
theorem sortL_perm (l : List Int) : (sortL l).Perm l := List.mergeSort_perm _ _
theorem sortL_pair (l : List Int) : (sortL l).Pairwise (fun x y => x ≤ y) := by
  have h := List.pairwise_mergeSort (le := fun x y : Int => decide (x ≤ y)) (by intro a b c; simp; omega) (by intro a b; simp; omega) l
  exact h.imp (fun hx => by simpa using hx)
theorem sortL_is (l ys : List Int) (hp : ys.Perm l) (hs : ys.Pairwise (fun x y => x ≤ y)) : sortL l = ys :=
  List.Perm.eq_of_pairwise (le := fun x y : Int => x ≤ y) (fun a b _ _ h1 h2 => by omega) (sortL_pair l) hs ((sortL_perm l).trans hp.symm)
theorem has_l0 (l : List Int) (m : Int) (hl : l.length ≤ 1000000) : ∀ (d k i : Nat), l.length - i = d → i ≤ l.length → d < k → spec_l1Has.l0 k m l (l.length : Int) i = some (decide (m ∈ l.drop i))
  | 0, k, i, hd, hi, hk => by
    obtain ⟨k, rfl⟩ : ∃ m, k = m + 1 := ⟨k - 1, by omega⟩
    obtain rfl : i = l.length := by omega
    rw [spec_l1Has.l0, if_neg (by omega)]; simp
  | d + 1, k, i, hd, hi, hk => by
    obtain ⟨k, rfl⟩ : ∃ m, k = m + 1 := ⟨k - 1, by omega⟩
    have hlt : i < l.length := by omega
    have e2 : wrap64 ((i : Int) + 1) = ((i + 1 : Nat) : Int) := by unfold wrap64; omega
    have ih := has_l0 l m hl d k (i + 1) (by omega) (by omega) (by omega)
    rw [spec_l1Has.l0, if_pos (by clear e2; omega), if_pos (by clear e2; omega), if_pos (by clear e2; omega), rd_nat l i hlt, e2, ih, List.drop_eq_getElem_cons hlt]
    by_cases hc : l[i] = m
    · rw [if_pos hc, hc]; simp
    · rw [if_neg hc]
      simp only [List.mem_cons]
      congr 1
      have : ¬ m = l[i] := fun h => hc h.symm
      simp [this]
theorem put_l0 (l : List Int) (m : Int) (hl : l.length ≤ 1000000) (hm : m ∉ l) : ∀ (d k i : Nat), l.length - i = d → i ≤ l.length → d < k → spec_l1Put.l0 k l m i = some (l.take i ++ insL m (l.drop i))
  | 0, k, i, hd, hi, hk => by
    obtain ⟨k, rfl⟩ : ∃ m, k = m + 1 := ⟨k - 1, by omega⟩
    obtain rfl : i = l.length := by omega
    rw [spec_l1Put.l0, if_neg (by omega), Option.bind_some, if_pos (by omega), if_pos (by omega), Option.bind_some, Int.toNat_natCast, List.take_length, List.nil_append, if_pos (by simp; omega), Option.bind_some, if_pos (by omega), Option.bind_some, List.drop_length, Option.bind_some, if_pos (by simp; omega)]
    simp [insL]
  | d + 1, k, i, hd, hi, hk => by
    obtain ⟨k, rfl⟩ : ∃ m, k = m + 1 := ⟨k - 1, by omega⟩
    have hlt : i < l.length := by omega
    have e2 : wrap64 ((i : Int) + 1) = ((i + 1 : Nat) : Int) := by unfold wrap64; omega
    have ih := put_l0 l m hl hm d k (i + 1) (by omega) (by omega) (by omega)
    rw [spec_l1Put.l0, if_pos (by clear e2; omega), if_pos (by clear e2; omega), rd_nat l i hlt, e2]
    have hmem : l[i] ∈ l := List.getElem_mem hlt
    by_cases hc : l[i] < m
    · rw [if_pos hc, ih, List.drop_eq_getElem_cons hlt, insL, if_pos hc, List.take_succ_eq_append_getElem hlt, List.append_assoc]
      rfl
    · have hne : ¬ l[i] = m := fun h => hm (h ▸ hmem)
      rw [if_neg hc, if_neg hne, Option.bind_some, if_pos (by clear e2; omega), Option.bind_some, Int.toNat_natCast, List.nil_append, if_pos (by simp; clear e2; omega), Option.bind_some, if_pos (by simp; clear e2; omega), Option.bind_some, Option.bind_some, if_pos (by simp; clear e2; omega)]
      rw [List.drop_eq_getElem_cons hlt, insL, if_neg hc, List.append_assoc]
      rfl
theorem eqG_mem (G : Int → Int) (m : Int) : ∀ (n b : Nat), b < n → ((b : Int) ∈ eqG G m n ↔ G b = m)
  | n + 1, b, h => by
    rw [eqG]
    by_cases e : b = n
    · subst e
      have hno : (b : Int) ∉ eqG G m b := by
        intro hm
        have : ∀ k : Nat, ∀ x ∈ eqG G m k, x < (k : Int) := by
          intro k
          induction k with
          | zero => intro x hx; simp [eqG] at hx
          | succ k ih =>
            intro x hx
            rw [eqG] at hx
            split at hx
            · rcases List.mem_append.1 hx with hx | hx
              · have := ih x hx; omega
              · rw [List.mem_singleton] at hx; omega
            · have := ih x hx; omega
        have := this b _ hm
        omega
      split
      · rename_i hg; simp [hg]
      · rename_i hg; exact ⟨fun h => absurd h hno, fun h => absurd h hg⟩
    · have ih := eqG_mem G m n b (by omega)
      split
      · rw [List.mem_append, List.mem_singleton, ih]
        constructor
        · intro h; rcases h with h | h
          · exact h
          · omega
        · intro h; exact Or.inl h
      · exact ih
theorem eqG_lt (G : Int → Int) (m : Int) : ∀ (k : Nat), ∀ x ∈ eqG G m k, x < (k : Int)
  | 0, x, hx => by simp [eqG] at hx
  | k + 1, x, hx => by
    rw [eqG] at hx
    split at hx
    · rcases List.mem_append.1 hx with hx | hx
      · have := eqG_lt G m k x hx; omega
      · rw [List.mem_singleton] at hx; omega
    · have := eqG_lt G m k x hx; omega
theorem eqG_rises (G : Int → Int) (m : Int) : ∀ (k : Nat), (eqG G m k).Pairwise (· < ·)
  | 0 => by simp [eqG]
  | k + 1 => by
    rw [eqG]
    split
    · rw [List.pairwise_append]
      refine ⟨eqG_rises G m k, by simp, fun x hx y hy => ?_⟩
      rw [List.mem_singleton] at hy
      have := eqG_lt G m k x hx; omega
    · exact eqG_rises G m k
theorem eqG_congr (G G' : Int → Int) (m : Int) : ∀ (k : Nat), (∀ b : Nat, b < k → G b = G' b) → eqG G m k = eqG G' m k
  | 0, _ => rfl
  | k + 1, h => by rw [eqG, eqG, h k (by omega), eqG_congr G G' m k (fun b hb => h b (by omega))]
theorem mxG_mxF (G G' : Int → Int) : ∀ (k : Nat), (∀ b : Nat, b < k → G b = G' b) → mxG G k = mxF G' k
  | 0, _ => rfl
  | k + 1, h => by rw [mxG, mxF, h k (by omega), mxG_mxF G G' k (fun b hb => h b (by omega))]
theorem mxF_ge (G : Int → Int) : ∀ n b : Nat, b < n → G b ≤ mxF G n
  | n + 1, b, h => by
    rw [mxF]
    by_cases e : b = n
    · subst e; omega
    · have := mxF_ge G n b (by omega); omega
theorem hmL_lt (a : Nat) (l : List Int) : ∀ (k : Nat), ∀ x ∈ hmL a l k, x < (k : Int)
  | 0, x, hx => by simp [hmL] at hx
  | k + 1, x, hx => by
    rw [hmL] at hx
    split at hx
    · rcases List.mem_append.1 hx with hx | hx
      · have := hmL_lt a l k x hx; omega
      · rw [List.mem_singleton] at hx; omega
    · have := hmL_lt a l k x hx; omega
theorem hmL_mem (a : Nat) (l : List Int) : ∀ (n b : Nat), b < n → ((b : Int) ∈ hmL a l n ↔ mxF (dropN a (l.eraseIdx b)) (a + 1) = mxF (dropN a l) (a + 1))
  | n + 1, b, h => by
    rw [hmL]
    by_cases e : b = n
    · subst e
      have hno : (b : Int) ∉ hmL a l b := fun hm => by have := hmL_lt a l b _ hm; omega
      split
      · rename_i hg; simp [hg]
      · rename_i hg; exact ⟨fun h => absurd h hno, fun h => absurd h hg⟩
    · have ih := hmL_mem a l n b (by omega)
      split
      · rw [List.mem_append, List.mem_singleton, ih]
        constructor
        · intro h; rcases h with h | h
          · exact h
          · omega
        · intro h; exact Or.inl h
      · exact ih
theorem hmL_rises (a : Nat) (l : List Int) : ∀ (k : Nat), (hmL a l k).Pairwise (· < ·)
  | 0 => by simp [hmL]
  | k + 1 => by
    rw [hmL]
    split
    · rw [List.pairwise_append]
      refine ⟨hmL_rises a l k, by simp, fun x hx y hy => ?_⟩
      rw [List.mem_singleton] at hy
      have := hmL_lt a l k x hx; omega
    · exact hmL_rises a l k
/-- Are these marks? -/
def gd (a : Int) (l : List Int) : Bool := (decide (0 ≤ a) && decide (a ≤ 100)) && risL 1 a 0 l
theorem gd_nat {a : Int} {l : List Int} (h : gd a l = true) : ∃ n : Nat, a = n ∧ n ≤ 100 ∧ risL 1 n 0 l = true := by
  unfold gd at h
  simp only [Bool.and_eq_true, decide_eq_true_eq] at h
  refine ⟨a.toNat, by omega, by omega, ?_⟩
  rw [show ((a.toNat : Nat) : Int) = a by omega]; exact h.2
theorem gd_of {n : Nat} {l : List Int} (h : n ≤ 100) (hg : risL 1 n 0 l = true) : gd n l = true := by
  unfold gd
  rw [hg, decide_eq_true (by omega), decide_eq_true (by omega)]; rfl
theorem are_i (a : Int) (l : List Int) (hl : l.length ≤ 1000) (k : Nat) (hk : 1000 < k) : impl_AreMarks.f k a l = some (gd a l) := impl_AreMarks_is a l (by omega) k (by omega)
theorem good_i (a : Int) (l : List Int) (hl : l.length ≤ 1000) (k : Nat) (hk : 1000 < k) : spec_stGood.f k a l = some (gd a l) := spec_stGood_is a l (by omega) k (by omega)
theorem hard_is (n : Nat) (l : List Int) (hn : n ≤ 100) (hl : l.length ≤ 1000) (hr : risL 1 n 0 l = true) : impl_WorstMarked.f 1100000 n l = some (eqG (dropN n l) (mxF (dropN n l) (n + 1)) (n + 1), true) ∧ spec_WorstMarked.f 1100000 n l = some (eqG (dropN n l) (mxF (dropN n l) (n + 1)) (n + 1), true) := by
  have h1 := good_i n l hl 1100000 (by omega)
  have h2 := are_i n l hl 1100000 (by omega)
  have hs : ∀ b : Nat, b ≤ n → ∀ k, 400 < k → ∃ r, spec_stDrops.f k n l b = some r ∧ (r.length : Int) = mkN 1100000 n l b ∧ r.length ≤ 1000 := by
    intro b hb k hk
    obtain ⟨r, q1, _, q3⟩ := drops_same l n b (by omega) (by omega) (by omega) hr k hk
    obtain ⟨q4, q5, q6, q7⟩ := drD_is l n b (by omega) (by omega) (by omega) hr k hk
    obtain ⟨p4, p5, p6, p7⟩ := drD_is l n b (by omega) (by omega) (by omega) hr 1100000 (by omega)
    obtain rfl : r = mkD n b l 0 := Option.some.inj (q1.symm.trans q4)
    refine ⟨_, q1, ?_, q3⟩
    unfold mkN
    rw [p5]
  have hN : ∀ b : Nat, b < n + 1 → mkN 1100000 n l b = dropN n l b := by
    intro b hb
    obtain ⟨p4, p5, p6, p7⟩ := drD_is l n b (by omega) (by omega) (by omega) hr 1100000 (by omega)
    unfold mkN
    rw [p5]
    exact p6
  have hok : mkOk 1100000 n l := by
    intro b h0 hb
    obtain ⟨r, _, q2, q3⟩ := drops_same l n b (by omega) h0 hb hr 1100000 (by omega)
    exact ⟨r, q2, q3⟩
  have e1 := mxG_mxF (mkN 1100000 n l) (dropN n l) (n + 1) hN
  have e2 := eqG_congr (mkN 1100000 n l) (dropN n l) (mxG (mkN 1100000 n l) (n + 1)) (n + 1) hN
  rw [e1] at e2
  have w1 := stWorst_l0 n l 1100000 (by omega) hs (by omega) (n + 1) 1100000 0 (by omega) (by omega) (by omega)
  have w2 := worst_l0 n l (mxG (mkN 1100000 n l) (n + 1)) 1100000 hs (by omega) (n + 1) 1100000 0 (by omega) (by omega) (by omega)
  have w3 := greatL_all (mkN 1100000 n l) (mkN_0 _ _ _) n
  rw [e1] at w1 w2 w3
  rw [e2] at w2 w3
  have hG := gd_of hn hr
  constructor
  · unfold impl_WorstMarked.f
    rw [h2, hG, Option.bind_some, if_pos rfl, if_pos ⟨mkOkB_of _ _ _ hok (by omega), by omega, by omega⟩, show ((n : Int) + 1).toNat = n + 1 by omega, w3]
  · unfold spec_WorstMarked.f
    rw [h1, hG, Option.bind_some, if_pos rfl]
    unfold spec_stWorst.f
    rw [show spec_stWorst.l0 1100000 n l 0 0 = _ from w1, Option.bind_some]
    exact w2
theorem harm_is (n : Nat) (l : List Int) (hn : n ≤ 100) (hl : l.length ≤ 1000) (hr : risL 1 n 0 l = true) : impl_HarmlessMarks.f 1100000 n l = some (hmL n l l.length, true) ∧ spec_HarmlessMarks.f 1100000 n l = some (hmL n l l.length, true) := by
  have h1 := good_i n l hl 1100000 (by omega)
  have h2 := are_i n l hl 1100000 (by omega)
  have hG := gd_of hn hr
  obtain ⟨s, hm⟩ := marked_is n l (by omega) hr 1100000 (by omega)
  constructor
  · unfold impl_HarmlessMarks.f impl_WorstOfMarks.f
    rw [h2, hG, Option.bind_some, if_pos rfl, hm, Option.bind_some, Option.bind_some, if_pos rfl]
    exact impl_hm n l (by omega) (by omega) hr l.length 1100000 0 (by omega) (by omega) (by omega)
  · unfold spec_HarmlessMarks.f
    rw [h1, hG, Option.bind_some, if_pos rfl]
    exact spec_hm n l (by omega) (by omega) hr l.length 1100000 0 (by omega) (by omega) (by omega)
theorem worst_is (n : Nat) (l : List Int) (hn : n ≤ 100) (hl : l.length ≤ 1000) (hr : risL 1 n 0 l = true) : impl_WorstOfMarks.f 1100000 n l = some (mxF (dropN n l) (n + 1), true) ∧ spec_WorstOfMarks.f 1100000 n l = some (mxF (dropN n l) (n + 1), true) := by
  have hG := gd_of hn hr
  constructor
  · unfold impl_WorstOfMarks.f
    rw [are_i n l hl 1100000 (by omega), hG, Option.bind_some, if_pos rfl, marked_sum n l hn hr 1100000 (by omega), Option.bind_some]
  · unfold spec_WorstOfMarks.f
    rw [good_i n l hl 1100000 (by omega), hG, Option.bind_some, if_pos rfl, stWorst_is n l hn hr 1100000 (by omega), Option.bind_some]
theorem sum_is (n : Nat) (l : List Int) (hn : n ≤ 100) (hl : l.length ≤ 1000) (hr : risL 1 n 0 l = true) : impl_SumOfMarks.f 1100000 n l = some (smF (dropN n l) (n + 1), true) ∧ spec_SumOfMarks.f 1100000 n l = some (smF (dropN n l) (n + 1), true) := by
  have hG := gd_of hn hr
  constructor
  · unfold impl_SumOfMarks.f
    rw [are_i n l hl 1100000 (by omega), hG, Option.bind_some, if_pos rfl, marked_sum n l hn hr 1100000 (by omega), Option.bind_some]
  · unfold spec_SumOfMarks.f
    rw [good_i n l hl 1100000 (by omega), hG, Option.bind_some, if_pos rfl, stSum_is n l hn hr 1100000 (by omega), Option.bind_some]
theorem bad_all (a : Int) (l : List Int) (hl : l.length ≤ 1000) (h : gd a l = false) :
    (impl_WorstMarked.f 1100000 a l = some ([], false) ∧ spec_WorstMarked.f 1100000 a l = some ([], false)) ∧ (impl_WorstOfMarks.f 1100000 a l = some (0, false) ∧ spec_WorstOfMarks.f 1100000 a l = some (0, false)) ∧ (impl_SumOfMarks.f 1100000 a l = some (0, false) ∧ spec_SumOfMarks.f 1100000 a l = some (0, false)) ∧ (impl_HarmlessMarks.f 1100000 a l = some ([], false) ∧ spec_HarmlessMarks.f 1100000 a l = some ([], false)) := by
  have h1 := good_i a l hl 1100000 (by omega)
  have h2 := are_i a l hl 1100000 (by omega)
  rw [h] at h1 h2
  refine ⟨⟨?_, ?_⟩, ⟨?_, ?_⟩, ⟨?_, ?_⟩, ⟨?_, ?_⟩⟩
  · unfold impl_WorstMarked.f; rw [h2, Option.bind_some, if_neg (by decide)]
  · unfold spec_WorstMarked.f; rw [h1, Option.bind_some, if_neg (by decide)]
  · unfold impl_WorstOfMarks.f; rw [h2, Option.bind_some, if_neg (by decide)]
  · unfold spec_WorstOfMarks.f; rw [h1, Option.bind_some, if_neg (by decide)]
  · unfold impl_SumOfMarks.f; rw [h2, Option.bind_some, if_neg (by decide)]
  · unfold spec_SumOfMarks.f; rw [h1, Option.bind_some, if_neg (by decide)]
  · unfold impl_HarmlessMarks.f impl_WorstOfMarks.f; rw [h2, Option.bind_some, if_neg (by decide), Option.bind_some, if_neg (by decide)]
  · unfold spec_HarmlessMarks.f; rw [h1, Option.bind_some, if_neg (by decide)]
theorem eDrops_l0 (L : List S65) (hL : L.length ≤ 1000000) : ∀ (d k i : Nat), L.length - i = d → i ≤ L.length → d < k → laws_eDrops.l0 k L L (L.length : Int) (i : Int) = some true
  | 0, k, i, hd, hi, hk => by
    obtain ⟨k, rfl⟩ : ∃ m, k = m + 1 := ⟨k - 1, by omega⟩
    rw [laws_eDrops.l0, if_neg (by omega)]
  | d + 1, k, i, hd, hi, hk => by
    obtain ⟨k, rfl⟩ : ∃ m, k = m + 1 := ⟨k - 1, by omega⟩
    have e2 : wrap64 ((i : Int) + 1) = ((i + 1 : Nat) : Int) := by unfold wrap64; omega
    rw [laws_eDrops.l0, if_pos (by clear e2; omega), if_pos (by clear e2; omega), if_pos (by clear e2; omega), if_pos (by clear e2; omega), if_neg (by simp), e2]
    exact eDrops_l0 L hL d k (i + 1) (by clear e2; omega) (by clear e2; omega) (by clear e2; omega)
theorem eDrops_is (L : List S65) (hL : L.length ≤ 1000000) (k : Nat) (hk : L.length < k) : laws_eDrops.f k L L = some true := by
  unfold laws_eDrops.f
  rw [if_pos rfl]
  exact eDrops_l0 L hL L.length k 0 (by omega) (by omega) (by omega)
theorem drops_both (a b : Int) (l : List Int) (hl : l.length ≤ 1000) : ∃ r ok, impl_MarkDrops.f 1100000 a l b = some (r, ok) ∧ spec_MarkDrops.f 1100000 a l b = some (r, ok) ∧ r.length ≤ 1000 ∧ (ok = false → r = []) ∧ (gd a l = true → 0 ≤ b → b ≤ a → ok = true ∧ r = mkD a b l 0) := by
  have h1 := good_i a l hl 1100000 (by omega)
  have h2 := are_i a l hl 1100000 (by omega)
  by_cases g : gd a l = true
  · by_cases hb : (decide (0 ≤ b) && decide (b ≤ a)) = true
    · have g' := g
      have hb' := hb
      unfold gd at g'
      simp only [Bool.and_eq_true, decide_eq_true_eq] at g' hb'
      obtain ⟨r1, r2, _, r3⟩ := drD_is l a b g'.1.2 hb'.1 hb'.2 g'.2 1100000 (by omega)
      rw [g] at h1 h2
      refine ⟨mkD a b l 0, true, ?_, ?_, by omega, (fun h => nomatch h), fun _ _ _ => ⟨rfl, rfl⟩⟩
      · unfold impl_MarkDrops.f impl_isBreak.f
        simp only [h2, impl_within_is, hb, r2, Option.bind_some, if_true]
      · unfold spec_MarkDrops.f spec_stAsked.f
        simp only [h1, spec_l1In_is, hb, r1, Option.bind_some, if_true]
    · rw [g] at h1 h2
      have hb' := Bool.eq_false_iff.mpr hb
      refine ⟨[], false, ?_, ?_, by simp, fun _ => rfl, fun _ q1 q2 => ?_⟩
      · unfold impl_MarkDrops.f impl_isBreak.f
        simp [h2, impl_within_is, hb']
      · unfold spec_MarkDrops.f spec_stAsked.f
        simp [h1, spec_l1In_is, hb']
      · rw [decide_eq_true q1, decide_eq_true q2] at hb; exact absurd rfl hb
  · rw [Bool.eq_false_iff.mpr g] at h1 h2
    refine ⟨[], false, ?_, ?_, by simp, fun _ => rfl, fun h => absurd h g⟩
    · unfold impl_MarkDrops.f
      simp [h2]
    · unfold spec_MarkDrops.f spec_stAsked.f
      simp [h1]
theorem tests_both (a b : Int) (l : List Int) (hl : l.length ≤ 1000) (r : List S65) (ok : Bool) (h1 : impl_MarkDrops.f 1100000 a l b = some (r, ok)) (h2 : spec_MarkDrops.f 1100000 a l b = some (r, ok)) : impl_MarkTests.f 1100000 a l b = some ((r.length : Int), ok) ∧ (spec_MarkTests.f 1100000 a l b = some ((r.length : Int), ok)) := by
  constructor
  · unfold impl_MarkTests.f
    rw [h1]; rfl
  · unfold spec_MarkDrops.f at h2
    unfold spec_MarkTests.f
    cases hq : spec_stAsked.f 1100000 a l b with
    | none => rw [hq] at h2; cases h2
    | some t =>
      rw [hq, Option.bind_some] at h2
      rw [Option.bind_some]
      cases t with
      | true =>
        rw [if_pos rfl] at h2 ⊢
        cases hd : spec_stDrops.f 1100000 a l b with
        | none => rw [hd] at h2; cases h2
        | some d =>
          rw [hd, Option.bind_some] at h2
          have h3 := Option.some.inj h2
          rw [Prod.mk.injEq] at h3
          obtain ⟨rfl, rfl⟩ := h3
          rfl
      | false =>
        rw [if_neg (by decide)] at h2 ⊢
        have h3 := Option.some.inj h2
        rw [Prod.mk.injEq] at h3
        obtain ⟨rfl, rfl⟩ := h3
        rfl
theorem dropM_both (a p : Int) (l : List Int) (hl : l.length ≤ 1000) : ∃ r ok, impl_DropMark.f 1100000 a l p = some (r, ok) ∧ spec_DropMark.f 1100000 a l p = some (r, ok) ∧ r.length ≤ 1000 ∧ (gd a l = true → ∀ k : Nat, p = k → k < l.length → r = l.eraseIdx k ∧ ok = true) := by
  have h1 := good_i a l hl 1100000 (by omega)
  have h2 := are_i a l hl 1100000 (by omega)
  have e2 : wrap64 ((l.length : Int) - 1) = (l.length : Int) - 1 := by unfold wrap64; omega
  unfold impl_DropMark.f spec_DropMark.f
  rw [h1, h2, e2, Option.bind_some, Option.bind_some]
  by_cases g : gd a l = true
  · rw [g, if_pos rfl, if_pos rfl, impl_within_is, spec_l1In_is, Option.bind_some, Option.bind_some]
    by_cases hb : (decide (0 ≤ p) && decide (p ≤ (l.length : Int) - 1)) = true
    · rw [hb, if_pos rfl, if_pos rfl]
      simp only [Bool.and_eq_true, decide_eq_true_eq] at hb
      obtain ⟨k, rfl⟩ : ∃ k : Nat, p = k := ⟨p.toNat, by omega⟩
      have hw : impl_without.f l k = some (l.eraseIdx k) := by unfold impl_without.f; rw [if_pos (by omega), Int.toNat_natCast]
      rw [hw, stLess_is l k (by omega) hl]
      refine ⟨l.eraseIdx k, true, rfl, rfl, by rw [List.length_eraseIdx]; split <;> omega, fun _ k' hk _ => ?_⟩
      obtain rfl : k = k' := by omega
      exact ⟨rfl, rfl⟩
    · rw [Bool.eq_false_iff.mpr hb]
      refine ⟨[], false, rfl, rfl, by simp, fun _ k hk hk2 => ?_⟩
      exfalso
      apply hb
      rw [decide_eq_true (by omega), decide_eq_true (by omega)]; rfl
  · rw [Bool.eq_false_iff.mpr g]
    exact ⟨[], false, rfl, rfl, by simp, fun h => absurd h (by decide)⟩
theorem add_both (a m : Int) (l : List Int) (hl' : l.length ≤ 1000) : ∃ r ok, impl_AddMark.f 1100000 a l m = some (r, ok) ∧ spec_AddMark.f 1100000 a l m = some (r, ok) ∧ r.length ≤ 1001 ∧ (ok = true → gd a r = true ∧ r.length = l.length + 1 ∧ m ∈ r) := by
  have hl : l.length ≤ 1000000 := by omega
  have h1 := spec_stGood_is a l (by omega) 1100000 (by omega)
  have h2 := impl_AreMarks_is a l (by omega) 1100000 (by omega)
  have h3 := impl_AreMarks_is a (sortL (l ++ [m])) (by rw [sortL_len]; simp; omega) 1100000 (by rw [sortL_len]; simp; omega)
  unfold spec_AddMark.f impl_AddMark.f
  rw [h1, h2, h3]
  simp only [Option.bind_some]
  by_cases hg : ((decide (0 ≤ a) && decide (a ≤ 100)) && risL 1 a 0 l) = true
  · rw [hg, if_pos rfl, if_pos rfl, if_pos hl]
    simp only [Bool.and_eq_true, decide_eq_true_eq] at hg
    obtain ⟨⟨ha0, ha1⟩, hr⟩ := hg
    have hpa : (decide (0 ≤ a) && decide (a ≤ 100)) = true := by simp [ha0, ha1]
    rw [hpa, Bool.true_and, spec_l1In_is, Option.bind_some]
    have hmemS : m ∈ sortL (l ++ [m]) := (sortL_perm _).mem_iff.2 (by simp)
    by_cases hin : 1 ≤ m ∧ m ≤ a
    · have hind : (decide (1 ≤ m) && decide (m ≤ a)) = true := by simp [hin]
      have hhas := has_l0 l m hl l.length 1100000 0 (by omega) (by omega) (by omega)
      rw [List.drop_zero] at hhas
      rw [hind, if_pos rfl]
      unfold spec_l1Has.f
      rw [show spec_l1Has.l0 1100000 m l (l.length : Int) 0 = _ from hhas, Option.bind_some]
      by_cases hm : m ∈ l
      · have hf : risL 1 a 0 (sortL (l ++ [m])) = false := by
          rw [Bool.eq_false_iff]
          intro h
          have hp := (List.pairwise_cons.1 (risL_pair 1 a _ 0 h)).2
          have hn : (sortL (l ++ [m])).Nodup := hp.imp (fun h => by omega)
          have hn2 := (sortL_perm (l ++ [m])).nodup_iff.1 hn
          rw [List.nodup_append] at hn2
          exact hn2.2.2 m hm m (by simp) rfl
        rw [hf, decide_eq_true hm, if_neg (by decide)]
        refine ⟨[], false, rfl, ?_, by simp, (fun h => nomatch h)⟩
        rw [show (1100000 : Nat) = 1099999 + 1 from rfl, spec_AddMark.j0, if_pos rfl]
      · have hri := insL_ris a m hin.1 hin.2 l 0 hr hm (by omega)
        have hs : sortL (l ++ [m]) = insL m l := sortL_is _ _ (insL_perm m l) ((List.pairwise_cons.1 (risL_pair 1 a _ 0 hri)).2.imp (fun h => by omega))
        have hput := put_l0 l m hl hm l.length 1099999 0 (by omega) (by omega) (by omega)
        rw [hs, hri, decide_eq_false hm, if_pos rfl]
        have h5 := (insL_perm m l).length_eq
        rw [List.length_append, List.length_singleton] at h5
        refine ⟨insL m l, true, rfl, ?_, by omega, fun _ => ⟨?_, h5, (insL_perm m l).mem_iff.2 (by simp)⟩⟩
        · rw [show (1100000 : Nat) = 1099999 + 1 from rfl, spec_AddMark.j0, if_neg (by decide), spec_l1Own_is l (by omega), Option.bind_some]
          unfold spec_l1Put.f
          rw [show spec_l1Put.l0 1099999 l m 0 = _ from hput]
          simp
        · unfold gd; rw [hpa, hri]; rfl
    · have hind : (decide (1 ≤ m) && decide (m ≤ a)) = false := by simp only [Bool.and_eq_false_iff, decide_eq_false_iff_not]; omega
      have hf : risL 1 a 0 (sortL (l ++ [m])) = false := by
        rw [Bool.eq_false_iff]
        intro h
        exact hin (risL_mem 1 a _ 0 h m hmemS)
      rw [hind, hf, if_neg Bool.false_ne_true, if_neg Bool.false_ne_true]
      refine ⟨[], false, rfl, ?_, by simp, (fun h => nomatch h)⟩
      rw [show (1100000 : Nat) = 1099999 + 1 from rfl, spec_AddMark.j0, if_pos rfl]
  · rw [Bool.eq_false_iff.mpr hg, if_neg (by decide), if_neg (by decide)]
    exact ⟨[], false, rfl, rfl, by simp, (fun h => nomatch h)⟩
theorem erase_perm : ∀ (l : List Int) (k : Nat) (hk : k < l.length), (l.eraseIdx k ++ [l[k]]).Perm l
  | x :: r, 0, _ => List.perm_append_singleton x r
  | x :: r, k + 1, hk => List.Perm.cons x (erase_perm r k (by simpa using hk))
/-- A mark taken out is put back. -/
theorem back_home (n : Nat) (l : List Int) (hn : n ≤ 100) (hl : l.length ≤ 1000) (hr : risL 1 n 0 l = true) (k : Nat) (hk : k < l.length) : impl_AddMark.f 1100000 n (l.eraseIdx k) l[k] = some (l, true) := by
  have h1 : (l.eraseIdx k).length ≤ 1000 := by rw [List.length_eraseIdx]; split <;> omega
  have hp : l.Perm (l.eraseIdx k ++ [l[k]]) := (erase_perm l k hk).symm
  have hs : sortL (l.eraseIdx k ++ [l[k]]) = l := sortL_is _ _ hp ((List.pairwise_cons.1 (risL_pair 1 n _ 0 hr)).2.imp (fun h => by omega))
  unfold impl_AddMark.f
  rw [are_i n _ h1 1100000 (by omega), gd_of hn (risL_erase 1 n l 0 k hr), Option.bind_some, if_pos rfl, if_pos (by omega), hs, are_i n l hl 1100000 (by omega), gd_of hn hr, Option.bind_some, if_pos rfl]
theorem spl_app (c : UInt8) (s : List UInt8) : ∀ x : List UInt8, c ∉ x → spl c (x ++ s) = (x ++ (spl c s).headD []) :: (spl c s).tail
  | [], _ => by rw [List.nil_append, List.nil_append]; exact spl_cons c s
  | b :: r, h => by
    have hb : b ≠ c := fun e => h (by rw [e]; exact List.mem_cons_self)
    rw [List.cons_append, spl, if_neg hb, spl_app c s r (fun hm => h (List.mem_cons_of_mem _ hm))]
    rfl
theorem joinTail_cons_ (c : UInt8) (y : List UInt8) (t : List (List UInt8)) : Lib.joinTail [c] (y :: t) = c :: (y ++ Lib.joinTail [c] t) := by simp [Lib.joinTail]
theorem spl_joinTail (c : UInt8) : ∀ r : List (List UInt8), (∀ x ∈ r, c ∉ x) → spl c (Lib.joinTail [c] r) = [] :: r
  | [], _ => rfl
  | y :: t, h => by
    rw [joinTail_cons_, spl, if_pos rfl, spl_app c _ y (h y List.mem_cons_self), spl_joinTail c t (fun x hx => h x (List.mem_cons_of_mem _ hx))]
    simp
theorem spl_join (c : UInt8) (x : List UInt8) (r : List (List UInt8)) (h : ∀ y ∈ x :: r, c ∉ y) : spl c (Lib.join (x :: r) [c]) = x :: r := by
  rw [Lib.join_cons, spl_app c _ x (h x List.mem_cons_self), spl_joinTail c r (fun y hy => h y (List.mem_cons_of_mem _ hy))]
  simp
theorem join_spl (c : UInt8) : ∀ s : List UInt8, Lib.join (spl c s) [c] = s
  | [] => by rw [spl, Lib.join_one]
  | b :: r => by
    have ih := join_spl c r
    have hc := spl_cons c r
    rw [hc, Lib.join_cons] at ih
    rw [spl]
    by_cases e : b = c
    · rw [if_pos e, Lib.join_cons, hc, joinTail_cons_, ih, e]; rfl
    · rw [if_neg e, Lib.join_cons, List.cons_append, ih]
theorem itoa_clean : ∀ u : Fin 101, (45 : UInt8) ∉ Lib.decDigits u.val ∧ rd1 (Lib.decDigits u.val) = (u.val : Int) := by decide +kernel
theorem itoa_ok (x : Int) (h0 : 0 ≤ x) (h1 : x ≤ 100) : (45 : UInt8) ∉ Lib.itoa x ∧ rd1 (Lib.itoa x) = x := by
  obtain ⟨u, rfl⟩ : ∃ u : Nat, x = u := ⟨x.toNat, by omega⟩
  rw [itoa_nat]
  exact itoa_clean ⟨u, by omega⟩
theorem text_both (l : List Int) (hl : l.length ≤ 1000) : ∃ s ok, impl_MarksText.f 5000 l = some (s, ok) ∧ spec_MarksText.f 5000 l = some (s, ok) ∧ (ok = gd 100 l) ∧ (gd 100 l = true → s = baOf (Lib.join (l.map Lib.itoa) [45])) := by
  have h1 := spec_stGood_is 100 l (by omega) 5000 (by omega)
  have h2 := impl_AreMarks_is 100 l (by omega) 5000 (by omega)
  by_cases g : gd 100 l = true
  · rw [show ((decide (0 ≤ (100 : Int)) && decide ((100 : Int) ≤ 100)) && risL 1 100 0 l) = true from g] at h1 h2
    have g' : risL 1 100 0 l = true := by unfold gd at g; simpa using g
    have q1 := risL_length 1 100 l 0 g' (by omega)
    have q2 := risL_mem 1 100 l 0 g'
    refine ⟨baOf (Lib.join (l.map Lib.itoa) [45]), true, ?_, ?_, g.symm, fun _ => rfl⟩
    · unfold impl_MarksText.f
      rw [h2, Option.bind_some, if_pos rfl, numbersText_is (⟨#[45]⟩ : ByteArray) l (by omega) (by decide) (fun x hx => by have := q2 x hx; omega) _ (by omega), Option.bind_some]
    · unfold spec_MarksText.f
      rw [h1, Option.bind_some, if_pos rfl, stText_is l (by omega) (fun x hx => by have := q2 x hx; omega) _ (by omega), Option.bind_some]
  · rw [show ((decide (0 ≤ (100 : Int)) && decide ((100 : Int) ≤ 100)) && risL 1 100 0 l) = false from Bool.eq_false_iff.mpr g] at h1 h2
    refine ⟨⟨#[]⟩, false, ?_, ?_, (Bool.eq_false_iff.mpr g).symm, fun h => absurd h g⟩
    · unfold impl_MarksText.f
      rw [h2, Option.bind_some, if_neg (by decide)]
    · unfold spec_MarksText.f
      rw [h1, Option.bind_some, if_neg (by decide)]
theorem parse_empty : impl_ParseMarks.f 3000000 (baOf []) = some ([], true) ∧ spec_ParseMarks.f 3000000 (baOf []) = some ([], true) := by
  have h0 : (baOf []).toList = ([] : List UInt8) := by rw [ba_toList]; rfl
  constructor
  · unfold impl_ParseMarks.f
    rw [if_pos h0]
  · unfold spec_ParseMarks.f spec_stParse.f
    rw [if_pos h0]; rfl
theorem parse_full (s : List UInt8) (h0 : s ≠ []) (hsz : s.length ≤ 1000000) :
    impl_ParseMarks.f 3000000 (baOf s) = some (if s.length ≤ 300 ∧ risL 1 100 0 ((spl 45 s).map rd1) = true then ((spl 45 s).map rd1, true) else ([], false)) ∧ spec_ParseMarks.f 3000000 (baOf s) = some (if s.length ≤ 300 ∧ risL 1 100 0 ((spl 45 s).map rd1) = true then ((spl 45 s).map rd1, true) else ([], false)) := by
  replace h0 : ¬ (baOf s).toList = ([] : List UInt8) := by rw [ba_toList, baOf_list]; exact h0
  have hlen := spl_len 45 s
  have hi : impl_readNumbers.f (baOf s) (⟨#[45]⟩ : ByteArray) = some (parN (rdN (spl 45 s))) := by
    unfold impl_readNumbers.f
    rw [if_pos ⟨rfl, by rw [baOf_size]; exact hsz⟩, baOf_list]
  have hsplit := l1Split_is s hsz 3000000 (by omega)
  have hst := stParse_l0 (spl 45 s) (by omega) (spl 45 s).length 3000000 0 (by omega) (by omega) (by omega)
  rw [List.take_zero] at hst
  have hspec : spec_ParseMarks.f 3000000 (baOf s) = some (if s.length ≤ 300 ∧ risL 1 100 0 ((spl 45 s).map rd1) = true then ((spl 45 s).map rd1, true) else ([], false)) := by
    unfold spec_ParseMarks.f spec_stParse.f
    rw [if_neg h0, baOf_size]
    by_cases h3 : s.length ≤ 300
    · rw [if_neg (by omega), hsplit, Option.bind_some, List.length_map]
      erw [hst]
      rw [Option.bind_some]
      by_cases hr : risL 1 100 0 ((spl 45 s).map rd1) = true
      · rw [if_pos hr, if_pos ⟨h3, hr⟩]
      · rw [if_neg hr, if_neg (fun h => hr h.2)]
    · rw [if_pos (by omega), if_neg (fun h => h3 h.1)]; rfl
  have hfull : (decide (0 ≤ (100 : Int)) && decide ((100 : Int) ≤ 100)) = true := rfl
  refine ⟨?_, hspec⟩
  unfold impl_ParseMarks.f
  rw [if_neg h0, hi, Option.bind_some]
  by_cases hr : risL 1 100 0 ((spl 45 s).map rd1) = true
  · have hb := risL_mem 1 100 _ 0 hr
    have hN := rdN_of (spl 45 s) hb
    have hback := rdN_back (spl 45 s) _ hN hb
    have h3 := parse_len s _ hback.2 hr
    have hA := impl_AreMarks_is 100 ((spl 45 s).map rd1) (by rw [List.length_map]; omega) 3000000 (by rw [List.length_map]; omega)
    have hR : (if s.length ≤ 300 ∧ risL 1 100 0 ((spl 45 s).map rd1) = true then ((spl 45 s).map rd1, true) else ([], false)) = ((spl 45 s).map rd1, true) := if_pos ⟨by omega, hr⟩
    rw [hN, hR]
    show (if true = true then (impl_AreMarks.f 3000000 100 ((spl 45 s).map rd1)).bind _ else _) = _
    rw [if_pos rfl, hA, Option.bind_some, hfull, Bool.true_and, if_pos hr]; rfl
  · have hR : (if s.length ≤ 300 ∧ risL 1 100 0 ((spl 45 s).map rd1) = true then ((spl 45 s).map rd1, true) else (([] : List Int), false)) = ([], false) := if_neg (fun h => hr h.2)
    rw [hR]
    cases hN : rdN (spl 45 s) with
    | none => rfl
    | some l =>
      have hll := rdN_length _ _ hN
      have hA := impl_AreMarks_is 100 l (by omega) 3000000 (by omega)
      show (if true = true then (impl_AreMarks.f 3000000 100 l).bind _ else _) = _
      rw [if_pos rfl, hA, Option.bind_some, hfull, Bool.true_and]
      by_cases hl : risL 1 100 0 l = true
      · have hb := risL_mem 1 100 _ 0 hl
        have := (rdN_back _ _ hN hb).1
        rw [this] at hr
        exact absurd hl hr
      · rw [if_neg hl]
/-- Marks told are read again. -/
theorem text_parse (l : List Int) (h : gd 100 l = true) : impl_ParseMarks.f 3000000 (baOf (Lib.join (l.map Lib.itoa) [45])) = some (l, true) := by
  have g' : risL 1 100 0 l = true := by unfold gd at h; simpa using h
  have q2 := risL_mem 1 100 l 0 g'
  cases l with
  | nil => exact parse_empty.1
  | cons a t =>
    have hcl : ∀ y ∈ Lib.itoa a :: t.map Lib.itoa, (45 : UInt8) ∉ y := by
      intro y hy
      obtain ⟨x, hx, rfl⟩ := List.mem_map.1 (show y ∈ (a :: t).map Lib.itoa from hy)
      have := q2 x hx
      exact (itoa_ok x (by omega) (by omega)).1
    have hs := spl_join 45 (Lib.itoa a) (t.map Lib.itoa) hcl
    rw [← List.map_cons] at hs
    have hlen := parse_len _ _ hs g'
    have hm : ((a :: t).map Lib.itoa).map rd1 = a :: t := by
      rw [List.map_map]
      conv => rhs; rw [← List.map_id (a :: t)]
      refine List.map_congr_left (fun x hx => ?_)
      have := q2 x hx
      exact (itoa_ok x (by omega) (by omega)).2
    have hne : Lib.join ((a :: t).map Lib.itoa) [45] ≠ [] := by
      intro e
      rw [e] at hs
      have h1 : spl 45 [] = [[]] := rfl
      rw [h1] at hs
      have h2 := congrArg (List.map rd1) hs
      rw [hm] at h2
      have h3 := q2 (rd1 []) (by rw [← h2]; simp)
      have h4 : rd1 [] = -1 := rfl
      omega
    have hp := (parse_full _ hne (by omega)).1
    rw [hs, hm, if_pos ⟨by omega, g'⟩] at hp
    exact hp
/-- What is read is told again. -/
theorem parse_text (s : List UInt8) (hsz : s.length ≤ 1000000) : ∃ m ok, impl_ParseMarks.f 3000000 (baOf s) = some (m, ok) ∧ spec_ParseMarks.f 3000000 (baOf s) = some (m, ok) ∧ m.length ≤ 301 ∧ (ok = true → gd 100 m = true ∧ Lib.join (m.map Lib.itoa) [45] = s) := by
  by_cases h0 : s = []
  · subst h0
    exact ⟨[], true, parse_empty.1, parse_empty.2, by simp, fun _ => ⟨rfl, rfl⟩⟩
  · obtain ⟨p1, p2⟩ := parse_full s h0 hsz
    by_cases hc : s.length ≤ 300 ∧ risL 1 100 0 ((spl 45 s).map rd1) = true
    · rw [if_pos hc] at p1 p2
      have hlen := spl_len 45 s
      have hb := risL_mem 1 100 _ 0 hc.2
      have hback := rdN_back (spl 45 s) _ (rdN_of (spl 45 s) hb) hb
      refine ⟨_, true, p1, p2, by rw [List.length_map]; omega, fun _ => ⟨?_, ?_⟩⟩
      · unfold gd; rw [hc.2]; rfl
      · rw [← hback.2]; exact join_spl 45 s
    · rw [if_neg hc] at p1 p2
      exact ⟨[], false, p1, p2, by simp, fun h => nomatch h⟩
theorem ml2_of {F : Nat} {f : Int} {m r : List Int} {ok : Bool} (h : ∀ (W : World) (A : Option Addr) (c : Nat), Kd.C (Kd.int .i64) W A m.length m → m.length ≤ c → Calls Tryz.prog F #[.int .i64 f, .slice A m.length c] W fun e w' => ∃ v0_ : Value, e = .returned (.tuple #[v0_, .bool ok]) ∧ Kd.R (Kd.int .i64) 3 w' W.heap.size (fun _ => True) v0_ r ∧ Below W.heap.size W w') : ML2 F f m m.length r r.length ok := fun W A c h1 h2 => (h W A c h2 h1).mono fun _ _ ⟨v0, he, hr, hb⟩ => by
  obtain ⟨A1, c1, rfl, q1, q2⟩ := Kd.R_reads hr
  exact ⟨A1, c1, he, q1, q2, hb⟩
theorem ml3_of {F : Nat} {f b : Int} {m r : List Int} {ok : Bool} (h : ∀ (W : World) (A : Option Addr) (c : Nat), Kd.C (Kd.int .i64) W A m.length m → m.length ≤ c → Calls Tryz.prog F #[.int .i64 f, .slice A m.length c, .int .i64 b] W fun e w' => ∃ v0_ : Value, e = .returned (.tuple #[v0_, .bool ok]) ∧ Kd.R (Kd.int .i64) 3 w' W.heap.size (fun _ => True) v0_ r ∧ Below W.heap.size W w') : ML3 F f m m.length b r r.length ok := fun W A c h1 h2 => (h W A c h2 h1).mono fun _ _ ⟨v0, he, hr, hb⟩ => by
  obtain ⟨A1, c1, rfl, q1, q2⟩ := Kd.R_reads hr
  exact ⟨A1, c1, he, q1, q2, hb⟩
theorem md3_of {F : Nat} {f b : Int} {m : List Int} {r : List S65} {ok : Bool} (h : ∀ (W : World) (A : Option Addr) (c : Nat), Kd.C (Kd.int .i64) W A m.length m → m.length ≤ c → Calls Tryz.prog F #[.int .i64 f, .slice A m.length c, .int .i64 b] W fun e w' => ∃ v0_ : Value, e = .returned (.tuple #[v0_, .bool ok]) ∧ Kd.R k65 65 w' W.heap.size (fun _ => True) v0_ r ∧ Below W.heap.size W w') : MD3 F f m m.length b r r.length ok := fun W A c h1 h2 => (h W A c h2 h1).mono fun _ _ ⟨v0, he, hr, hb⟩ => by
  obtain ⟨A1, c1, rfl, q1, q2⟩ := Kd.R_reads hr
  exact ⟨A1, c1, he, q1, q2, hb⟩
theorem mp1_of {F : Nat} {s : ByteArray} {r : List Int} {ok : Bool} (h : ∀ (W : World), TabsE W → Calls Tryz.prog F #[.string s] W fun e w' => ∃ v0_ : Value, e = .returned (.tuple #[v0_, .bool ok]) ∧ Kd.R (Kd.int .i64) 3 w' W.heap.size (fun _ => True) v0_ r ∧ Below W.heap.size W w') : MP1 F s r r.length ok := fun W ht => (h W ht).mono fun _ _ ⟨v0, he, hr, hb⟩ => by
  obtain ⟨A1, c1, rfl, q1, q2⟩ := Kd.R_reads hr
  exact ⟨A1, c1, he, q1, q2, hb⟩
theorem msame_of (x : List Int) (hx : x.length ≤ 2000) : MSame x x.length := fun W A c A' c' h1 h2 h3 h4 => (laws_eSame.calls 3000 A c x A' c' x true W h2 h1 h4 h3 (eSame_is x (by omega) 3000 (by omega))).mono fun _ _ h => ⟨h.1, h.2.below⟩
theorem msameD_of (x : List S65) (hx : x.length ≤ 2000) : MSameD x x.length := fun W A c A' c' h1 h2 h3 h4 => (laws_eDrops.calls 3000 A c x A' c' x true W h2 h1 h4 h3 (eDrops_is x (by omega) 3000 (by omega))).mono fun _ _ h => ⟨h.1, h.2.below⟩
theorem mhas_of (x : List Int) (q : Int) (hx : x.length ≤ 2000) (b : Bool) (hb : b = decide (q ∈ x)) : MHas x x.length q b := fun W A c h1 h2 => (laws_eHas.calls 3000 A c x q b W h2 h1 (by rw [hb]; exact eHas_is x q (by omega) 3000 (by omega))).mono fun _ _ h => ⟨h.1, h.2.below⟩
theorem mrises_of (x : List Int) (hx : x.length ≤ 2000) (hp : x.Pairwise (· < ·)) : MRises x x.length := fun W A c h1 h2 => (laws_eRises.calls 3000 A c x true W h2 h1 (eRises_is x (by omega) hp 3000 (by omega))).mono fun _ _ h => ⟨h.1, h.2.below⟩
theorem mare_i (a : Int) (m : List Int) (hm : m.length ≤ 1001) (ok : Bool) (h : ok = gd a m) : MB2 15 a m m.length ok := fun W A c h1 h2 => (impl_AreMarks.calls 1100000 a A c m ok W h2 h1 (by rw [h]; exact impl_AreMarks_is a m (by omega) 1100000 (by omega))).mono fun _ _ h => ⟨h.1, h.2.below⟩
theorem mare_s (a : Int) (m : List Int) (hm : m.length ≤ 1000) (ok : Bool) (h : ok = gd a m) : MB2 16 a m m.length ok := fun W A c h1 h2 => (spec_AreMarks.calls 1100000 a A c m ok W h2 h1 (by unfold spec_AreMarks.f; rw [good_i a m hm 1100000 (by omega), h]; rfl)).mono fun _ _ h => ⟨h.1, h.2.below⟩
theorem mk_MF {f : Int} {m hard harm : List Int} {worst sum : Int} {ok : Bool} (hm : m.length ≤ 1000) (hok : ok = gd f m) (hh : hard.length ≤ 2000) (hg : harm.length ≤ 2000)
    (h1 : impl_WorstMarked.f 1100000 f m = some (hard, ok)) (h2 : spec_WorstMarked.f 1100000 f m = some (hard, ok)) (w1 : impl_WorstOfMarks.f 1100000 f m = some (worst, ok)) (w2 : spec_WorstOfMarks.f 1100000 f m = some (worst, ok))
    (s1 : impl_SumOfMarks.f 1100000 f m = some (sum, ok)) (s2 : spec_SumOfMarks.f 1100000 f m = some (sum, ok)) (g1 : impl_HarmlessMarks.f 1100000 f m = some (harm, ok)) (g2 : spec_HarmlessMarks.f 1100000 f m = some (harm, ok)) :
    MF f m m.length hard hard.length worst sum harm harm.length ok where
  h1 := ml2_of fun W A c q1 q2 => impl_WorstMarked.calls 1100000 f A c m _ _ W q1 q2 h1
  h2 := ml2_of fun W A c q1 q2 => spec_WorstMarked.calls 1100000 f A c m _ _ W q1 q2 h2
  w1 := fun W A c q1 q2 => impl_WorstOfMarks.calls 1100000 f A c m _ _ W q2 q1 w1
  w2 := fun W A c q1 q2 => spec_WorstOfMarks.calls 1100000 f A c m _ _ W q2 q1 w2
  s1 := fun W A c q1 q2 => impl_SumOfMarks.calls 1100000 f A c m _ _ W q2 q1 s1
  s2 := fun W A c q1 q2 => spec_SumOfMarks.calls 1100000 f A c m _ _ W q2 q1 s2
  g1 := ml2_of fun W A c q1 q2 => impl_HarmlessMarks.calls 1100000 f A c m _ _ W q1 q2 g1
  g2 := ml2_of fun W A c q1 q2 => spec_HarmlessMarks.calls 1100000 f A c m _ _ W q1 q2 g2
  a1 := mare_i f m (by omega) ok hok
  a2 := mare_s f m hm ok hok
  e1 := msame_of hard hh
  e2 := msame_of harm hg
theorem few_worst (n : Nat) (m : List Int) (hn : n ≤ 100) (hr : risL 1 n 0 m = true) : ((few 2 (n : Int) : Nat) : Int) ≤ mxF (dropN n m) (n + 1) := by
  have hw0 := mxF_0 (dropN n m) (n + 1)
  obtain ⟨w, hw⟩ : ∃ w : Nat, mxF (dropN n m) (n + 1) = w := ⟨(mxF (dropN n m) (n + 1)).toNat, by omega⟩
  rw [hw]
  have hl := mk_least n m 0 w hr (by omega) (by omega) (fun b hb1 hb2 => by
    obtain ⟨c, rfl⟩ : ∃ c : Nat, b = c := ⟨b.toNat, by omega⟩
    obtain ⟨_, _, h3, _⟩ := drD_is m n c (by omega) hb1 hb2 hr 1000 (by omega)
    have h4 := mxF_ge (dropN n m) (n + 1) c (by omega)
    omega)
  rw [show ((n : Int) - 0).toNat = n by omega] at hl
  by_cases hc : w ≤ 100
  · have := few2 n w hc hl; omega
  · have := few2 n 100 (by omega) (by omega); omega
theorem mk_MP (n : Nat) (m : List Int) (hm : m.length ≤ 110) (hn : n ≤ 100) (hr : risL 1 n 0 m = true) :
    MP n m m.length (eqG (dropN n m) (mxF (dropN n m) (n + 1)) (n + 1)) (eqG (dropN n m) (mxF (dropN n m) (n + 1)) (n + 1)).length (mxF (dropN n m) (n + 1)) (smF (dropN n m) (n + 1)) (hmL n m m.length) (hmL n m m.length).length ((few 2 (n : Int) : Nat) : Int)
      (fun b => mkD n b m 0) (fun b => (mkD n b m 0).length) (fun b => (cntE (mkD n b m 0) : Int)) (smF (dropN n m)) (mxF (dropN n m)) (fun k => m.eraseIdx k) (fun k => (m.eraseIdx k).length) (fun k => mxF (dropN n (m.eraseIdx k)) (n + 1)) := by
  have hG := gd_of hn hr
  have hlh : (eqG (dropN n m) (mxF (dropN n m) (n + 1)) (n + 1)).length ≤ 2000 := by have := eqG_len (dropN n m) (mxF (dropN n m) (n + 1)) (n + 1); omega
  have hlg : (hmL n m m.length).length ≤ 2000 := by have := hmL_len n m m.length; omega
  have hD : ∀ b : Nat, b ≤ n → impl_MarkDrops.f 1100000 n m b = some (mkD n b m 0, true) ∧ spec_MarkDrops.f 1100000 n m b = some (mkD n b m 0, true) := by
    intro b hb
    obtain ⟨r, ok, h1, h2, _, _, h5⟩ := drops_both n b m (by omega)
    obtain ⟨rfl, rfl⟩ := h5 hG (by omega) (by omega)
    exact ⟨h1, h2⟩
  have hL : ∀ b : Nat, b ≤ n → ((mkD n b m 0).length : Int) = dropN n m b ∧ (mkD n b m 0).length ≤ 1000 := by
    intro b hb
    obtain ⟨_, _, h3, h4⟩ := drD_is m n b (by omega) (by omega) (by omega) hr 1000 (by omega)
    exact ⟨h3, h4⟩
  have hO : ∀ b : Nat, b ≤ n → okD (b : Int) 0 (n : Int) (mkD n b m 0) := fun b hb => mk_ok n b (by omega) m 0 hr (by omega) (by omega)
  have hE : ∀ k : Nat, (m.eraseIdx k).length ≤ 1000 := by intro k; rw [List.length_eraseIdx]; split <;> omega
  refine { md := ?_, mt := ?_, lo := ?_, id := ?_, eb := ?_, bre := ?_, dll := ?_, eh := ?_, sm0 := rfl, sms := ?_, smn := rfl, mx0 := rfl, mxs := ?_, mxn := rfl, r1 := ?_, r2 := ?_, lw := ?_, lwf := ?_, dm := ?_, dw := ?_, da := ?_, dh := ?_, sa := ?_ }
  · intro b hb
    exact md3_of fun W A c q1 q2 => impl_MarkDrops.calls 1100000 n A c m b _ _ W q1 q2 (hD b hb).1
  · intro b hb
    exact fun W A c q1 q2 => impl_MarkTests.calls 1100000 n A c m b _ _ W q2 q1 (tests_both n b m (by omega) _ _ (hD b hb).1 (hD b hb).2).1
  · intro b hb
    exact fun W A c q1 q2 => impl_LeftOpen.calls 3000 n A c _ _ _ _ W q2 q1 (bindOpen n b _ (by omega) (by omega) (hO b hb) (hL b hb).2 (Int.le_refl _))
  · intro b hb
    exact fun W A c q1 q2 => (impl_IdleDrops.calls 3000 n A c _ _ _ W q2 q1 (idle_is n b _ (by omega) (by omega) (hO b hb) (hL b hb).2)).mono fun _ _ ⟨v0, he, hr, hb⟩ => by
      obtain ⟨A1, c1, rfl, _, _⟩ := Kd.R_reads hr
      exact ⟨A1, c1, he, hb⟩
  · intro b hb
    have := (hL b hb).2
    exact fun W A c q1 q2 => laws_eBroken.calls 3000 A c _ _ W q2 q1 (eBroken_is _ (by omega) 3000 (by omega))
  · intro b hb
    have := mkD_cnt n b m 0
    show (cntE (mkD n b m 0) : Int) ≤ 2
    omega
  · intro b hb; exact (hL b hb).2
  · intro b hb
    refine mhas_of _ _ hlh _ ?_
    have h1 := eqG_mem (dropN n m) (mxF (dropN n m) (n + 1)) (n + 1) b (by omega)
    show (((mkD n b m 0).length : Int) == mxF (dropN n m) (n + 1)) = _
    rw [Bool.eq_iff_iff, beq_iff_eq, decide_eq_true_eq, h1, (hL b hb).1]
  · intro b hb
    have h1 := smF_ok n m hn hr b (by omega)
    have h2 := (hL b hb).1
    refine ⟨?_, h1.1, by omega⟩
    show smF (dropN n m) (b + 1) = smF (dropN n m) b + ((mkD n b m 0).length : Int)
    rw [smF, h2]
  · intro b hb
    show mxF (dropN n m) (b + 1) = max (mxF (dropN n m) b) ((mkD n b m 0).length : Int)
    rw [mxF, (hL b hb).1]
  · exact mrises_of _ hlh (eqG_rises _ _ _)
  · exact mrises_of _ hlg (hmL_rises _ _ _)
  · intro W
    refine impl_LeastWorst.calls (n : Int) _ _ W ?_
    unfold impl_LeastWorst.f impl_isMarked.f
    rw [impl_within_is, decide_eq_true (by omega), decide_eq_true (by omega)]
    simp only [Option.bind_some, Bool.and_self, if_true]
    unfold impl_leastWorst.f
    rw [if_pos ⟨by omega, by omega⟩]; rfl
  · exact few_worst n m hn hr
  · intro k hk
    obtain ⟨r, ok, h1, _, _, h4⟩ := dropM_both n k m (by omega)
    obtain ⟨rfl, rfl⟩ := h4 hG k rfl hk
    exact ml3_of fun W A c q1 q2 => impl_DropMark.calls 1100000 n A c m k _ _ W q1 q2 h1
  · intro k hk
    exact fun W A c q1 q2 => impl_WorstOfMarks.calls 1100000 n A c _ _ _ W q2 q1 (worst_is n _ hn (hE k) (risL_erase 1 n m 0 k hr)).1
  · intro k hk
    have h1 := back_home n m hn (by omega) hr k hk
    rw [rd_nat m k hk]
    exact ml3_of fun W A c q1 q2 => impl_AddMark.calls 1100000 n A c _ _ _ _ W q1 q2 h1
  · intro k hk
    refine mhas_of _ _ hlg _ ?_
    have h1 := hmL_mem n m m.length k hk
    rw [Bool.eq_iff_iff, beq_iff_eq, decide_eq_true_eq, h1]
  · exact msame_of m (by omega)
theorem mk_head (f : Int) (m : List Int) (hm : m.length ≤ 110) : MHead f m m.length := by
  by_cases g : gd f m = true
  · obtain ⟨n, rfl, hn, hr⟩ := gd_nat g
    refine ⟨_, _, _, _, _, _, true, mk_MF (by omega) g.symm ?_ ?_ (hard_is n m hn (by omega) hr).1 (hard_is n m hn (by omega) hr).2 (worst_is n m hn (by omega) hr).1 (worst_is n m hn (by omega) hr).2 (sum_is n m hn (by omega) hr).1 (sum_is n m hn (by omega) hr).2 (harm_is n m hn (by omega) hr).1 (harm_is n m hn (by omega) hr).2, fun _ => ⟨n, _, _, _, _, _, _, _, _, _, rfl, hn, mk_MP n m hm hn hr⟩⟩
    · have := eqG_len (dropN n m) (mxF (dropN n m) (n + 1)) (n + 1); omega
    · have := hmL_len n m m.length; omega
  · have g' := Bool.eq_false_iff.mpr g
    obtain ⟨⟨a1, a2⟩, ⟨b1, b2⟩, ⟨c1, c2⟩, ⟨d1, d2⟩⟩ := bad_all f m (by omega) g'
    exact ⟨_, _, _, _, _, _, false, mk_MF (by omega) g'.symm (by simp) (by simp) a1 a2 b1 b2 c1 c2 d1 d2, fun h => nomatch h⟩
theorem ba_self_ (s : ByteArray) : baOf s.data.toList = s := ba_self s
theorem mk_all : MAll where
  h := fun f m n hl hn _ => by subst hl; exact mk_head f m hn
  s1 := fun f m n p hl hn hf hp => by
    subst hl
    obtain ⟨r, ok, h1, h2, h3, _, _⟩ := drops_both f p m (by omega)
    obtain ⟨t1, t2⟩ := tests_both f p m (by omega) r ok h1 h2
    exact ⟨r, r.length, (r.length : Int), ok, { d1 := md3_of fun W A c q1 q2 => impl_MarkDrops.calls 1100000 f A c m p _ _ W q1 q2 h1, d2 := md3_of fun W A c q1 q2 => spec_MarkDrops.calls 1100000 f A c m p _ _ W q1 q2 h2, t1 := fun W A c q1 q2 => impl_MarkTests.calls 1100000 f A c m p _ _ W q2 q1 t1, t2 := fun W A c q1 q2 => spec_MarkTests.calls 1100000 f A c m p _ _ W q2 q1 t2, e := msameD_of r (by omega) }⟩
  s2 := fun f m n p hl hn hf hp => by
    subst hl
    obtain ⟨r, ok, h1, h2, h3, h4⟩ := add_both f p m (by omega)
    refine ⟨r, r.length, ok, { d1 := ml3_of fun W A c q1 q2 => impl_AddMark.calls 1100000 f A c m p _ _ W q1 q2 h1, d2 := ml3_of fun W A c q1 q2 => spec_AddMark.calls 1100000 f A c m p _ _ W q1 q2 h2, e := msame_of r (by omega), y := fun hk => ?_ }⟩
    obtain ⟨y1, y2, y3⟩ := h4 hk
    refine ⟨mare_i f r h3 true y1.symm, ?_, mhas_of r p (by omega) true (decide_eq_true y3).symm⟩
    rw [i64_w, y2]; unfold wrap64; omega
  s3 := fun f m n p hl hn hf hp => by
    subst hl
    obtain ⟨r, ok, h1, h2, h3, _⟩ := dropM_both f p m (by omega)
    exact ⟨r, r.length, ok, { d1 := ml3_of fun W A c q1 q2 => impl_DropMark.calls 1100000 f A c m p _ _ W q1 q2 h1, d2 := ml3_of fun W A c q1 q2 => spec_DropMark.calls 1100000 f A c m p _ _ W q1 q2 h2, e := msame_of r (by omega) }⟩
  s4 := fun m n hl hn => by
    subst hl
    obtain ⟨s, ok, h1, h2, h3, h4⟩ := text_both m (by omega)
    refine ⟨s, ok, { d1 := fun W A c q1 q2 ht => impl_MarksText.calls 5000 A c m _ _ W q2 q1 h1 ht.tabs, d2 := fun W A c q1 q2 ht => spec_MarksText.calls 5000 A c m _ _ W q2 q1 h2, e := msame_of m (by omega), y := fun hk => ?_ }⟩
    rw [h3] at hk
    have h5 := text_parse m hk
    rw [← h4 hk] at h5
    exact mp1_of fun W ht => impl_ParseMarks.calls 3000000 s _ _ W h5 ht
  s5 := fun s hs => by
    have hsz : s.data.toList.length = s.size := by rw [Array.length_toList]; rfl
    obtain ⟨m, ok, h1, h2, h3, h4⟩ := parse_text s.data.toList (by omega)
    rw [ba_self_] at h1 h2
    refine ⟨m, m.length, ok, { d1 := mp1_of fun W ht => impl_ParseMarks.calls 3000000 s _ _ W h1 ht, d2 := mp1_of fun W ht => spec_ParseMarks.calls 3000000 s _ _ W h2, e := msame_of m (by omega), y := fun hk => ?_ }⟩
    obtain ⟨g, hj⟩ := h4 hk
    obtain ⟨s', ok', t1, t2, t3, t4⟩ := text_both m (by omega)
    have e1 := t4 g
    rw [hj, ba_self_] at e1
    rw [g] at t3
    subst e1 t3
    exact fun W A c q1 q2 ht => impl_MarksText.calls 5000 A c m _ _ W q2 q1 t1 ht.tabs
theorem dr2_of (code : List Int) (hl : ∀ x ∈ code, 0 ≤ x ∧ x ≤ 255) : MDr2 5 code code.length := fun W A c h1 h2 => by
  have h := draw_worst code hl W A c h1 h2
  unfold DAre at h
  exact h.mono fun _ _ ⟨f, m, A1, c1, he, q1, q2, q3, q4, q6⟩ => ⟨f, m, m.length, A1, c1, he, q1, rfl, q2, q3, q4, q6⟩
theorem dr3_of {F : Nat} {code : List Int} (H : ∀ (W : World) (A : Option Addr) (c : Nat), code.length ≤ c → Kd.C (Kd.int .u8) W A code.length code → DDrp F W A code.length c) : MDr3 F code code.length := fun W A c h1 h2 => by
  have h := H W A c h1 h2
  unfold DDrp at h
  exact h.mono fun _ _ ⟨f, m, p, A1, c1, he, q1, q2, q3, q5, q4, q6⟩ => ⟨f, m, m.length, p, A1, c1, he, q1, rfl, q2, q3, q5, q4, q6⟩
theorem dr1_of (code : List Int) (hl : ∀ x ∈ code, 0 ≤ x ∧ x ≤ 255) : MDr1 34 code code.length := fun W A c h1 h2 => by
  have h := draw_text code hl W A c h1 h2
  unfold DTxt at h
  exact h.mono fun _ _ ⟨m, A1, c1, he, q1, q2, q4, q6⟩ => ⟨m, m.length, A1, c1, he, q1, rfl, q2, q4, q6⟩
theorem drS_of (code : List Int) (hl : ∀ x ∈ code, 0 ≤ x ∧ x ≤ 255) : MDrS 37 code code.length := fun W A c h1 h2 => by
  have h := draw_parse code hl W A c h1 h2
  unfold DPar at h
  exact h
theorem mbig_no (code more : List Int) (h : code.length + more.length ≤ 1048576) : MBig code code.length more more.length := fun W A c A' c' h1 h2 h3 h4 =>
  (laws_big.calls A c code A' c' more false W h2 h1 h4 h3 (by
    have e_ : wrap64 (1048576 - (code.length : Int)) = 1048576 - (code.length : Int) := by unfold wrap64; omega
    unfold laws_big.f
    rw [e_, if_neg (by clear e_; omega), decide_eq_false (by clear e_; omega)])).mono fun _ _ h => ⟨h.1, h.2.below⟩

end Go.Proofs.YtaniojfokildiaaGreatDoor.PrintA
