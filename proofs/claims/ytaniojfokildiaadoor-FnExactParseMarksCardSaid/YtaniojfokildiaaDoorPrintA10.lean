-- written by this session's own driver (wip/gen.py) with the kit's print and contracts of our own
import Derived.Test.YtaniojfokildiaaDoorPrintA0
import Derived.Test.YtaniojfokildiaaDoorPrintA3
import Derived.Test.YtaniojfokildiaaDoorPrintA4
namespace Go.Proofs.YtaniojfokildiaaDoor.PrintA
open Go.RowKit Go.Proofs.YtaniojfokildiaaDoorLib Go.Proofs.YtaniojfokildiaaDoorW.PrintWords Go.Proofs.YtaniojfokildiaaDoorW.PrintLast Go.Proofs.YtaniojfokildiaaDoorW.PrintMore
attribute [local go_sem] max2_int min2_int max_two min_two max_three min_three max_four min_four   -- for this text's walks alone
set_option linter.unusedVariables false
set_option linter.unusedSimpArgs false

-- NOT PRINTED: function 65 (stringslite_Index)

-- NOT PRINTED: function 53 (strings_Index)

-- NOT PRINTED: function 64 (bytealg_CountString)

-- NOT PRINTED: function 52 (strings_Count)

-- NOT PRINTED: function 43 (strings_genSplit)

/-! ### strings_Split: function 29, a contract of our own -/
-- SHELF strings.Split|strconv.Atoi
/-- What the library reads: the table, the two errors, a bound. -/
structure TabsE (w : World) : Prop where
  tabs : Tabs w
  max : ∃ m, w.cell? ⟨2, 0, none⟩ = some (.int .i64 m)
  syn : ∃ tp p, w.var? Tryd.prog "strconv.ErrSyntax" = some #[.iface tp p]
  rng : ∃ tp p, w.var? Tryd.prog "strconv.ErrRange" = some #[.iface tp p]
theorem TabsE.below {w w' : World} (h : TabsE w) (hb : Below w.heap.size w w') : TabsE w' := by
  obtain ⟨h1, ⟨m, h2⟩, ⟨t1, p1, h3⟩, ⟨t2, p2, h4⟩⟩ := h
  refine ⟨h1.below hb, ⟨m, (hb.cell (World.block_lt_of_cell? w _ h2)).trans h2⟩, ⟨t1, p1, ?_⟩, ⟨t2, p2, ?_⟩⟩
  · exact Go.Joins.var_stays (g := 0) (by kernel_rfl) h3 hb (Nat.le_refl _)
  · exact Go.Joins.var_stays (g := 1) (by kernel_rfl) h4 hb (Nat.le_refl _)
theorem splitK_spl (c : UInt8) : ∀ s : List UInt8, Lib.splitK [c] 0 (Lib.count s [c]) s = spl c s
  | [] => by
    have h : Lib.index [] [c] = -1 := by rw [Lib.index_one]; rfl
    rw [Lib.count_miss h]; rfl
  | b :: r => by
    have ih := splitK_spl c r
    have hi : Lib.index (b :: r) [c] = if b == c then 0 else if Lib.index r [c] == -1 then -1 else Lib.index r [c] + 1 := by rw [Lib.index_one, Lib.index_one]; rfl
    by_cases hb : b = c
    · subst hb
      have hi0 : Lib.index (b :: r) [b] = ((0 : Nat) : Int) := by rw [hi, if_pos (by simp)]; rfl
      rw [Lib.count_hit (by simp) hi0, Nat.add_comm 1]
      rw [Lib.splitK, if_neg (by rw [hi0]; decide), hi0, spl, if_pos rfl]
      show List.take 0 (b :: r) :: Lib.splitK [b] 0 _ (List.drop 1 (b :: r)) = _
      rw [List.take_zero, ← ih]; rfl
    · have hne : ¬ (b == c) = true := by simpa using hb
      rw [if_neg hne] at hi
      rw [spl, if_neg hb]
      by_cases hr : Lib.index r [c] = -1
      · rw [if_pos (by rw [hr]; rfl)] at hi
        rw [Lib.count_miss hr] at ih
        rw [Lib.count_miss hi, ← ih]; rfl
      · have hge := Lib.index_ge r [c]
        obtain ⟨i, hiN⟩ : ∃ i : Nat, Lib.index r [c] = (i : Int) := ⟨(Lib.index r [c]).toNat, by omega⟩
        rw [if_neg (by simpa using hr)] at hi
        have hi1 : Lib.index (b :: r) [c] = ((i + 1 : Nat) : Int) := by rw [hi, hiN]; omega
        have c1 := Lib.count_hit (by simp) hiN
        have c2 := Lib.count_hit (by simp) hi1
        rw [Nat.add_comm 1] at c1 c2
        have hd : (b :: r).drop (i + 1 + [c].length) = r.drop (i + [c].length) := by
          rw [show i + 1 + [c].length = (i + [c].length) + 1 by omega]; rfl
        rw [hd] at c2
        rw [c1, Lib.splitK, if_neg (by simpa using hr), hiN] at ih
        rw [c2, Lib.splitK, if_neg (by rw [hi1]; simp only [beq_iff_eq]; omega), hi1, ← ih, Int.toNat_natCast, Int.toNat_natCast, hd, List.headD_cons, List.tail_cons]
        rfl
theorem splitB_spl (s : ByteArray) : Lib.splitB (baOf [45]) 0 (Lib.countB s (baOf [45])) s = (spl 45 s.data.toList).map baOf := by
  have h := Lib.splitB_data (baOf [45]) 0 (Lib.countB s (baOf [45])) s
  rw [baOf_list] at h
  have h2 : Lib.countB s (baOf [45]) = Lib.count s.data.toList [45] := by show Lib.count _ _ = _; rw [baOf_list]
  rw [h2, splitK_spl] at h
  rw [h2, ← h, List.map_map]
  conv => lhs; rw [← List.map_id (Lib.splitB _ _ _ _)]
  exact List.map_congr_left fun x _ => (ba_self x).symm
/-- The words of a text: a new row of the call's own, read whatever is made behind it. -/
theorem split_calls (a0 : ByteArray) (hs : a0.size ≤ 1000000) (w : World) (ht : TabsE w) :
    Calls Tryd.prog 29 #[.string a0, .string (baOf [45])] w fun e w' => ∃ ad : Addr, e = .returned (.slice (some ad) (spl 45 a0.data.toList).length (spl 45 a0.data.toList).length) ∧ Below w.heap.size w w' ∧ w.heap.size < w'.heap.size ∧
      ∀ W : World, W.heap[w.heap.size]? = w'.heap[w.heap.size]? → ∀ j x, (spl 45 a0.data.toList)[j]? = some x → W.cell? (ad.add j) = some (.string (baOf x)) := by
  obtain ⟨m, hm⟩ := ht.max
  have hl : (Lib.splitB (baOf [45]) 0 (Lib.countB a0 (baOf [45])) a0).length = Lib.countB a0 (baOf [45]) + 1 := Lib.splitB_all (baOf [45]) (by decide) 0 _ a0 rfl
  have he := splitB_spl a0
  rw [he, List.length_map] at hl
  refine (Tryd.strings_Split a0 (baOf [45]) m w (by omega) hm (by decide)).mono ?_
  rintro e w' ⟨rfl, rfl⟩
  rw [he, ← hl]
  refine ⟨⟨w.heap.size, 0, none⟩, rfl, (Below.refl _ w).alloc (Nat.le_refl _) _, by simp, ?_⟩
  intro W hW j x hx
  have ea : (⟨w.heap.size, 0, none⟩ : Addr).add j = ⟨w.heap.size, j, none⟩ := by
    unfold Addr.add
    split
    · rename_i h_; subst h_; rfl
    · simp
  have hb : (w.alloc (.cells (((spl 45 a0.data.toList).map baOf).map Value.string).toArray 9)).heap[w.heap.size]? = some (.cells (((spl 45 a0.data.toList).map baOf).map Value.string).toArray 9 (0, 0)) := by
    show (w.heap.push _)[w.heap.size]? = _
    rw [Array.getElem?_push_size]
  rw [ea]
  unfold World.cell?
  rw [hW, hb]
  simp [hx]
theorem atoi_ok (x : List UInt8) (hx : x.length ≤ 1000000) (v : Int) (h : Lib.atoiAll x = .ok v) (w : World) :
    Calls Tryd.prog 30 #[.string (baOf x)] w fun e w' => e = .returned (.tuple #[.int .i64 v, .nilIface]) ∧ Below w.heap.size w w' := by
  refine (Tryd.strconv_Atoi_ok (baOf x) (by rw [baOf_size]; omega) v (by rw [baOf_list]; exact h) w).mono ?_
  rintro e w' ⟨rfl, hw⟩
  refine ⟨rfl, ?_⟩
  rcases hw with rfl | ⟨t, rfl⟩
  · exact Below.refl _ _
  · exact bytes_below (Below.refl _ _) (Nat.le_refl _) _ t
theorem atoi_err (x : List UInt8) (hx : x.length ≤ 1000000) (h : ∀ v, Lib.atoiAll x ≠ .ok v) (w : World) (ht : TabsE w) :
    Calls Tryd.prog 30 #[.string (baOf x)] w fun e w' => ∃ (n : Int) (N : Nat), e = .returned (.tuple #[.int .i64 n, .iface 65 (.pointer (some ⟨N, 0, none⟩))]) ∧ Below w.heap.size w w' := by
  cases hc : Lib.atoiAll x with
  | ok v => exact absurd hc (h v)
  | range =>
    obtain ⟨t, p, hv⟩ := ht.rng
    refine (Tryd.strconv_Atoi_range_var (baOf x) (by rw [baOf_size]; omega) (by rw [baOf_list]; exact hc) t p w hv).mono ?_
    rintro e w' ⟨N, rfl, _, _, hb⟩
    exact ⟨_, N, rfl, hb⟩
  | _ =>
    obtain ⟨t, p, hv⟩ := ht.syn
    refine (Tryd.strconv_Atoi_syntax_var (baOf x) (by rw [baOf_size]; omega) (by rw [baOf_list]; exact hc) t p w hv).mono ?_
    rintro e w' ⟨N, rfl, _, _, hb⟩
    exact ⟨_, N, rfl, hb⟩

/-! ### strconv_lower: function 80 -/
def strconv_lower.f (a0 : Int) : Option (Int) := some (Go.bits .or .u8 a0 32)
set_option maxHeartbeats 8000000 in
set_option maxRecDepth 100000 in
theorem strconv_lower.calls (a0 : Int) (r : Int) (w : World) (h : strconv_lower.f a0 = some r) :
    Calls Tryd.prog 80 #[.int .u8 a0] w fun e w' => e = .returned (.int .u8 r) ∧ Drawn0 w w' := by
  have H : (some (Go.bits .or .u8 a0 32)) = some r := h
  clear h
  obtain rfl := Option.some.inj H
  go_enter Tryd.func80, Tryd.ntmps80
  go_wp2
  go_ret
  exact ⟨by first | rfl | (simp; done) | (simp [*]; done), by repeat (first | exact Drawn0.refl _ | apply Drawn0.step)⟩

set_option maxHeartbeats 8000000 in
set_option maxRecDepth 100000 in
theorem strconv_lower.calls0 (a0 : Int) (r : Int) (w : World) (h : strconv_lower.f a0 = some r) :
    Calls Tryd.prog 80 #[.int .u8 a0] w fun e w' => e = .returned (.int .u8 r) ∧ w = w' := by
  have H : (some (Go.bits .or .u8 a0 32)) = some r := h
  clear h
  obtain rfl := Option.some.inj H
  go_enter Tryd.func80, Tryd.ntmps80
  go_wp2
  go_ret
  exact ⟨by first | rfl | (simp; done) | (simp [*]; done), by first | rfl | simp⟩

end Go.Proofs.YtaniojfokildiaaDoor.PrintA
