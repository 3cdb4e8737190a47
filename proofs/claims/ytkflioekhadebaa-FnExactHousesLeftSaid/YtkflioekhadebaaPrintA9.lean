-- written by this session's own driver (wip/gen.py) with the kit's print and contracts of our own
import Derived.Test.YtkflioekhadebaaPrintA0
import Derived.Test.YtkflioekhadebaaPrintA6
import Derived.Test.YtkflioekhadebaaPrintA7
import Derived.Test.YtkflioekhadebaaPrintA8
namespace Go.Proofs.Ytkflioekhadebaa.PrintA
open Go.RowKit Go.Proofs.YtkflioekhadebaaLib Go.Proofs.YtkflioekhadebaaW.PrintWords Go.Proofs.YtkflioekhadebaaW.PrintLast Go.Proofs.YtkflioekhadebaaW.PrintMore
attribute [local go_sem] max2_int min2_int max_two min_two max_three min_three max_four min_four   -- for this text's walks alone
set_option linter.unusedVariables false
set_option linter.unusedSimpArgs false

/-! behind impl_HousesLeft -/
-- LIB Houses
def hlD (d : S47) : S55 := ⟨d.f1, d.f2⟩
def hlOk (l : List Int) (d : S47) : Bool := (decide (0 ≤ d.f0) && decide (d.f0 ≤ (l.length : Int) - 1)) && (decide (1 ≤ d.f1) && decide (d.f1 ≤ l.getD d.f0.toNat 0))
def hlStep (a : Int × Int) (d : S55) : Int × Int := if d.f1 = true then (a.1, min a.2 (d.f0 - 1)) else (max a.1 d.f0, a.2)
/-- The drops of a house. -/
def hlOwn (ds : List S47) (i : Nat) : List S55 := (ds.filter (fun d => decide (d.f0 = (i : Int)))).map hlD
/-- The least and the greatest break of a house. -/
def hlRow (l : List Int) (ds : List S47) (i : Nat) : Int × Int := (hlOwn ds i).foldl hlStep (0, l.getD i 0)
theorem open_go (ds : List S55) (hd : ∀ d ∈ ds, 0 ≤ d.f0 ∧ d.f0 ≤ 1000) : ∀ (r k j : Nat) (lo hi : Int), ds.length - j = r → j ≤ ds.length → ds.length ≤ 1000 → r < k → impl_open.l0 k lo hi ds (ds.length : Int) (j : Int) = some ((ds.drop j).foldl hlStep (lo, hi))
  | 0, k, j, lo, hi, hr, hj, hl, hk => by
    obtain ⟨k, rfl⟩ : ∃ m, k = m + 1 := ⟨k - 1, by omega⟩
    rw [impl_open.l0, if_neg (by omega), List.drop_of_length_le (by omega)]
    rfl
  | r + 1, k, j, lo, hi, hr, hj, hl, hk => by
    obtain ⟨k, rfl⟩ : ∃ m, k = m + 1 := ⟨k - 1, by omega⟩
    have hlt : j < ds.length := by omega
    have hx := hd _ (List.getElem_mem hlt)
    have hrd : rd_T55 ds (j : Int) = ds[j] := by
      unfold rd_T55
      rw [Int.toNat_natCast, List.getD_eq_getElem?_getD, List.getElem?_eq_getElem hlt]; rfl
    have e1 : wrap64 (ds[j].f0 - 1) = ds[j].f0 - 1 := by unfold wrap64; omega
    have e2 : wrap64 ((j : Int) + 1) = ((j + 1 : Nat) : Int) := by clear e1; unfold wrap64; omega
    have hmn : mn hi (ds[j].f0 - 1) = min hi (ds[j].f0 - 1) := by clear e1 e2; unfold mn; split <;> omega
    have hmx : mx lo ds[j].f0 = max lo ds[j].f0 := by clear e1 e2 hmn; unfold mx; split <;> omega
    rw [impl_open.l0, if_pos (by clear e1 e2 hmn hmx; omega), if_pos (by clear e1 e2 hmn hmx; omega), if_pos (by clear e1 e2 hmn hmx; omega), hrd, e1, e2, hmn, hmx, List.drop_eq_getElem_cons hlt, List.foldl_cons, open_go ds hd r k (j + 1) _ _ (by clear e1 e2 hmn hmx; omega) (by clear e1 e2 hmn hmx; omega) hl (by clear e1 e2 hmn hmx; omega), open_go ds hd r k (j + 1) _ _ (by clear e1 e2 hmn hmx; omega) (by clear e1 e2 hmn hmx; omega) hl (by clear e1 e2 hmn hmx; omega)]
    have hst : hlStep (lo, hi) ds[j] = if ds[j].f1 = true then (lo, min hi (ds[j].f0 - 1)) else (max lo ds[j].f0, hi) := rfl
    rw [hst]
    by_cases h : ds[j].f1 = true
    · rw [if_pos h, if_pos h]
    · rw [if_neg h, if_neg h]
theorem open_is (n : Int) (ds : List S55) (hd : ∀ d ∈ ds, 0 ≤ d.f0 ∧ d.f0 ≤ 1000) (hl : ds.length ≤ 1000) (k : Nat) (hk : ds.length < k) : impl_open.f k n ds = some (ds.foldl hlStep (0, n)) := by
  unfold impl_open.f
  have := open_go ds hd ds.length k 0 0 n (by omega) (by omega) hl hk
  simpa using this
theorem hlOwn_more (ds : List S47) (d : S47) (i : Nat) : hlOwn (ds ++ [d]) i = if d.f0 = (i : Int) then hlOwn ds i ++ [hlD d] else hlOwn ds i := by
  unfold hlOwn
  rw [List.filter_append, List.map_append]
  by_cases h : d.f0 = (i : Int)
  · rw [if_pos h]; simp [h]
  · rw [if_neg h]; simp [h]
theorem hlOwn_len (ds : List S47) (i : Nat) : (hlOwn ds i).length ≤ ds.length := by
  unfold hlOwn
  rw [List.length_map]
  exact List.length_filter_le _ _
theorem hlOwn_mem (ds : List S47) (i : Nat) (x : S55) (hx : x ∈ hlOwn ds i) : ∃ d ∈ ds, x = hlD d ∧ d.f0 = (i : Int) := by
  unfold hlOwn at hx
  rw [List.mem_map] at hx
  obtain ⟨d, hd, rfl⟩ := hx
  rw [List.mem_filter] at hd
  exact ⟨d, hd.1, rfl, by simpa using hd.2⟩
def hlRows (n : Nat) (ds : List S47) : List (List S55) := (List.range n).map (hlOwn ds)
theorem hlRows_more (n : Nat) (ds : List S47) (d : S47) (h : Nat) (hh : d.f0 = (h : Int)) (hn : h < n) : (hlRows n ds).set h ((hlRows n ds).getD h [] ++ [hlD d]) = hlRows n (ds ++ [d]) := by
  have hg : (hlRows n ds).getD h [] = hlOwn ds h := by
    unfold hlRows
    rw [List.getD_eq_getElem?_getD, List.getElem?_map, List.getElem?_range hn]
    rfl
  rw [hg]
  unfold hlRows
  apply List.ext_getElem?
  intro i
  rw [List.getElem?_set]
  by_cases hi : i < n
  · rw [List.getElem?_map, List.getElem?_range hi, List.getElem?_map, List.getElem?_range hi, List.length_map, List.length_range]
    show _ = some (hlOwn (ds ++ [d]) i)
    rw [hlOwn_more]
    by_cases he : h = i
    · subst he
      rw [if_pos rfl, if_pos hn, if_pos hh]
    · rw [if_neg he, if_neg (by omega)]
      rfl
  · have h1 : ((List.range n).map (hlOwn ds))[i]? = none := List.getElem?_eq_none (by simp; omega)
    have h2 : ((List.range n).map (hlOwn (ds ++ [d])))[i]? = none := List.getElem?_eq_none (by simp; omega)
    rw [h1, h2, if_neg (by omega)]
/-- What is left of the houses' breaks. -/
def hlOut (l : List Int) (ds : List S47) (n : Nat) : List (List Int) := (List.range n).map (fun i => [(hlRow l ds i).1, (hlRow l ds i).2])
def hlAll (l : List Int) (ds : List S47) : Bool := ds.all (hlOk l) && (List.range l.length).all (fun i => decide ((hlRow l ds i).1 ≤ (hlRow l ds i).2))
def hlRes (l : List Int) (ds : List S47) : List (List Int) × Bool := if hlAll l ds = true then (hlOut l ds l.length, true) else ([], false)
def hlOkRow (l : List Int) (ds : List S47) (i : Nat) : Bool := decide ((hlRow l ds i).1 ≤ (hlRow l ds i).2)
theorem hl_l1 (l : List Int) (ds : List S47) (n : Nat) (hn : l.length = n) (h3 : n ≤ 3) (hds : ds.length ≤ 60) (hb : ∀ d ∈ ds, 0 ≤ d.f1 ∧ d.f1 ≤ 1000) : ∀ (r k i : Nat) (acc : List (List Int)), n - i = r → i ≤ n → 100 + r < k → acc.length + r ≤ 10 →
    impl_HousesLeft.l1 k (hlRows n ds) acc l (n : Int) (i : Int) = some (if (List.range r).all (fun t => hlOkRow l ds (i + t)) = true then (acc ++ (List.range r).map (fun t => [(hlRow l ds (i + t)).1, (hlRow l ds (i + t)).2]), true) else ([], false))
  | 0, k, i, acc, hr, hi, hk, ha => by
    obtain ⟨k, rfl⟩ : ∃ m, k = m + 1 := ⟨k - 1, by omega⟩
    rw [impl_HousesLeft.l1, if_neg (by omega)]
    simp
  | r + 1, k, i, acc, hr, hi, hk, ha => by
    obtain ⟨k, rfl⟩ : ∃ m, k = m + 1 := ⟨k - 1, by omega⟩
    have hlt : i < n := by omega
    have hrows : (hlRows n ds).length = n := by unfold hlRows; rw [List.length_map, List.length_range]
    have hrd : rd l (i : Int) = l.getD i 0 := by unfold rd; rw [Int.toNat_natCast]
    have hrl : (hlRows n ds).getD i [] = hlOwn ds i := by
      unfold hlRows
      rw [List.getD_eq_getElem?_getD, List.getElem?_map, List.getElem?_range hlt]
      rfl
    have e2 : wrap64 ((i : Int) + 1) = ((i + 1 : Nat) : Int) := by unfold wrap64; omega
    have hol := hlOwn_len ds i
    have hop := open_is (l.getD i 0) (hlOwn ds i) (fun x hx => by
      obtain ⟨d, hd, rfl, _⟩ := hlOwn_mem ds i x hx
      exact hb d hd) (by clear e2; omega) k (by clear e2; omega)
    have hop2 : impl_open.f k (l.getD i 0) (hlOwn ds i) = some (hlRow l ds i) := hop
    have hcomm : ∀ t, i + 1 + t = i + (t + 1) := fun t => by omega
    rw [impl_HousesLeft.l1, if_pos (by clear e2; omega), if_pos (by clear e2; omega), if_pos (by clear e2; omega), if_pos (by clear e2; omega), hrd, show rd_L8 (hlRows n ds) (i : Int) = (hlRows n ds).getD (i : Int).toNat [] from rfl, Int.toNat_natCast, hrl, hop2, Option.bind_some, List.range_succ_eq_map, List.all_cons, List.map_cons, List.all_map, List.map_map]
    by_cases hle : (hlRow l ds i).1 ≤ (hlRow l ds i).2
    · have h1 : hlOkRow l ds (i + 0) = true := decide_eq_true hle
      rw [if_neg (by clear e2; omega), if_pos (by clear e2; omega), e2, hl_l1 l ds n hn h3 hds hb r k (i + 1) _ (by clear e2; omega) (by clear e2; omega) (by clear e2; omega) (by clear e2; rw [List.length_append, List.length_singleton]; omega), h1, Bool.true_and]
      simp only [hcomm, List.append_assoc, List.singleton_append, Function.comp_def, Nat.succ_eq_add_one, Nat.add_zero]
    · have h1 : hlOkRow l ds (i + 0) = false := decide_eq_false hle
      rw [if_pos (by clear e2; omega), h1, Bool.false_and]
      rfl
theorem hl_l0 (l : List Int) (ds : List S47) (n : Nat) (hn : l.length = n) (h1 : 1 ≤ n) (h3 : n ≤ 3) (hl : hOk l) (hds : ds.length ≤ 60) : ∀ (r k j : Nat), ds.length - j = r → j ≤ ds.length → (∀ d ∈ ds.take j, hlOk l d = true) → 200 + r < k →
    impl_HousesLeft.l0 k l (hlRows n (ds.take j)) ds (ds.length : Int) (j : Int) = some (hlRes l ds)
  | 0, k, j, hr, hj, hpre, hk => by
    obtain ⟨k, rfl⟩ : ∃ m, k = m + 1 := ⟨k - 1, by omega⟩
    have htk : ds.take j = ds := List.take_of_length_le (by omega)
    rw [htk] at hpre ⊢
    have hb : ∀ d ∈ ds, 0 ≤ d.f1 ∧ d.f1 ≤ 1000 := fun d hd => by
      have h := hpre d hd
      unfold hlOk at h
      simp only [Bool.and_eq_true, decide_eq_true_eq] at h
      have := hOk_get hl d.f0.toNat
      omega
    have h := hl_l1 l ds n hn h3 hds hb n k 0 [] (by omega) (by omega) (by omega) (by simp; omega)
    have hall : ds.all (hlOk l) = true := List.all_eq_true.2 hpre
    rw [impl_HousesLeft.l0, if_neg (by omega), hn]
    rw [show ((0 : Nat) : Int) = 0 from rfl] at h
    rw [h]
    unfold hlRes hlAll hlOut
    rw [hall, hn, Bool.true_and]
    simp only [Nat.zero_add, List.nil_append]
    rfl
  | r + 1, k, j, hr, hj, hpre, hk => by
    obtain ⟨k, rfl⟩ : ∃ m, k = m + 1 := ⟨k - 1, by omega⟩
    have hlt : j < ds.length := by omega
    have hrd : rd_T47 ds (j : Int) = ds[j] := by
      unfold rd_T47
      rw [Int.toNat_natCast, List.getD_eq_getElem?_getD, List.getElem?_eq_getElem hlt]; rfl
    have hbad : hlOk l ds[j] = false → hlRes l ds = ([], false) := fun h => by
      unfold hlRes hlAll
      have : ds.all (hlOk l) = false := by
        rw [List.all_eq_false]
        exact ⟨ds[j], List.getElem_mem hlt, by rw [h]; decide⟩
      rw [this, Bool.false_and]
      rfl
    have e1 : wrap64 ((l.length : Int) - 1) = (l.length : Int) - 1 := by unfold wrap64; omega
    have e2 : wrap64 ((j : Int) + 1) = ((j + 1 : Nat) : Int) := by clear e1; unfold wrap64; omega
    rw [impl_HousesLeft.l0, if_pos (by clear e1 e2; omega), if_pos (by clear e1 e2; omega), if_pos (by clear e1 e2; omega), hrd, e1, impl_within_is, Option.bind_some]
    by_cases c1 : (decide (0 ≤ ds[j].f0) && decide (ds[j].f0 ≤ (l.length : Int) - 1)) = true
    · rw [if_pos c1]
      have c1' := c1
      simp only [Bool.and_eq_true, decide_eq_true_eq] at c1'
      have hrl : rd l ds[j].f0 = l.getD ds[j].f0.toNat 0 := rfl
      rw [if_pos c1'.1, if_pos (by clear e1 e2; omega), hrl, impl_within_is, Option.bind_some]
      by_cases c2 : (decide (1 ≤ ds[j].f1) && decide (ds[j].f1 ≤ l.getD ds[j].f0.toNat 0)) = true
      · have hok : hlOk l ds[j] = true := by unfold hlOk; rw [c1, c2]; rfl
        have hrows : (hlRows n (ds.take j)).length = n := by unfold hlRows; rw [List.length_map, List.length_range]
        have hf : ds[j].f0 = ((ds[j].f0.toNat : Nat) : Int) := by clear e1 e2; omega
        have hfn : ds[j].f0.toNat < n := by clear e1 e2; omega
        have hrl6 : rd_L8 (hlRows n (ds.take j)) ds[j].f0 = (hlRows n (ds.take j)).getD ds[j].f0.toNat [] := rfl
        have hlen : ((hlRows n (ds.take j)).getD ds[j].f0.toNat []).length ≤ 60 := by
          have hg : (hlRows n (ds.take j)).getD ds[j].f0.toNat [] = hlOwn (ds.take j) ds[j].f0.toNat := by
            unfold hlRows
            rw [List.getD_eq_getElem?_getD, List.getElem?_map, List.getElem?_range hfn]
            rfl
          rw [hg]
          have h1 := hlOwn_len (ds.take j) ds[j].f0.toNat
          have h2 := List.length_take_le j ds
          clear e1 e2
          omega
        have hmore := hlRows_more n (ds.take j) ds[j] ds[j].f0.toNat hf hfn
        have htk : ds.take j ++ [ds[j]] = ds.take (j + 1) := by rw [List.take_add_one, List.getElem?_eq_getElem hlt]; rfl
        rw [htk] at hmore
        rw [if_pos c2, if_pos (by clear e1 e2; omega), hrl6, if_pos (by clear e1 e2; omega), e2]
        have hD : (⟨ds[j].f1, ds[j].f2⟩ : S55) = hlD ds[j] := rfl
        rw [hD, hmore]
        exact hl_l0 l ds n hn h1 h3 hl hds r k (j + 1) (by clear e1 e2; omega) (by clear e1 e2; omega) (fun d hd => by
          rw [← htk] at hd
          rcases List.mem_append.1 hd with h | h
          · exact hpre d h
          · rw [List.mem_singleton] at h; rw [h]; exact hok) (by clear e1 e2; omega)
      · rw [if_neg c2, hbad (by unfold hlOk; rw [Bool.eq_false_iff.mpr c2, Bool.and_false])]
    · rw [if_neg c1, hbad (by unfold hlOk; rw [Bool.eq_false_iff.mpr c1, Bool.false_and])]
def hlGood (l : List Int) : Bool := (decide (1 ≤ l.length) && decide (l.length ≤ 3)) && l.all (fun x => decide (0 ≤ x) && decide (x ≤ 8))
/-- What both return. -/
def hlAnswer (l : List Int) (ds : List S47) : List (List Int) × Bool := if hlGood l = true ∧ ds.length ≤ 60 then hlRes l ds else ([], false)
theorem impl_HousesLeft_is (l : List Int) (ds : List S47) (hl : l.length ≤ 1000000) : impl_HousesLeft.f 1000 l ds = some (hlAnswer l ds) := by
  have hA : impl_AreHouses.f l = some (hlGood l) := by unfold impl_AreHouses.f; rw [if_pos (by omega)]; rfl
  unfold impl_HousesLeft.f hlAnswer
  rw [hA, Option.bind_some]
  cases hg : hlGood l with
  | false =>
    rw [if_neg (by decide), if_neg (by intro h; exact absurd h.1 (by decide)), impl_HousesLeft.j0, if_pos rfl]
  | true =>
    rw [if_pos rfl]
    unfold hlGood at hg
    simp only [Bool.and_eq_true, decide_eq_true_eq, List.all_eq_true] at hg
    obtain ⟨⟨g1, g2⟩, g3⟩ := hg
    by_cases hd : ds.length ≤ 60
    · have h0 : hlRows l.length (ds.take 0) = List.replicate l.length [] := by
        unfold hlRows
        rw [List.take_zero]
        apply List.ext_getElem?
        intro i
        rw [List.getElem?_map, List.getElem?_replicate]
        by_cases hi : i < l.length
        · rw [List.getElem?_range hi, if_pos hi]; rfl
        · rw [List.getElem?_eq_none (by simp; omega), if_neg hi]; rfl
      have h := hl_l0 l ds l.length rfl g1 g2 g3 hd ds.length 999 0 (by omega) (by omega) (fun d hd => by simp at hd) (by omega)
      rw [h0] at h
      rw [if_pos ⟨rfl, hd⟩, impl_HousesLeft.j0, if_neg (by simp; omega), if_pos (by omega), if_pos (by omega), Int.toNat_natCast]
      exact h
    · rw [if_neg (fun h => hd h.2), impl_HousesLeft.j0, if_pos (by simp; omega)]
theorem impl_HousesLeft.callsS (k : Nat) (A0 : Option Addr) (c0 : Nat) (l0 : List Int) (A1 : Option Addr) (c1 : Nat) (l1 : List S47) (r1 : List (List Int)) (r2 : Bool) (w : World) (hr0 : Kd.C (Kd.int .i64) w A0 l0.length l0) (hc0 : l0.length ≤ c0) (hr1 : Kd.C k47 w A1 l1.length l1) (hc1 : l1.length ≤ c1) (h : impl_HousesLeft.f k l0 l1 = some (r1, r2)) :
    Calls Try.prog 21 #[.slice A0 l0.length c0, .slice A1 l1.length c1] w fun e w' => ∃ v0_ : Value, e = .returned (.tuple #[v0_, .bool r2]) ∧ Kd.S (Kd.slice 3 (Kd.int .i64)) 22 w' w.heap.size (fun _ => True) v0_ r1 ∧ Below w.heap.size w w' :=
  impl_HousesLeft.calls k A0 c0 l0 A1 c1 l1 r1 r2 w hr0 hc0 hr1 hc1 h

end Go.Proofs.Ytkflioekhadebaa.PrintA
