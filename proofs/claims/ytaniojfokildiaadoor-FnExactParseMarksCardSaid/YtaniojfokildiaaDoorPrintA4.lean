-- written by this session's own driver (wip/gen.py) with the kit's print and contracts of our own
import Derived.Test.YtaniojfokildiaaDoorPrintA0
import Derived.Test.YtaniojfokildiaaDoorPrintA3
namespace Go.Proofs.YtaniojfokildiaaDoor.PrintA
open Go.RowKit Go.Proofs.YtaniojfokildiaaDoorLib Go.Proofs.YtaniojfokildiaaDoorW.PrintWords Go.Proofs.YtaniojfokildiaaDoorW.PrintLast Go.Proofs.YtaniojfokildiaaDoorW.PrintMore
attribute [local go_sem] max2_int min2_int max_two min_two max_three min_three max_four min_four   -- for this text's walks alone
set_option linter.unusedVariables false
set_option linter.unusedSimpArgs false

/-! behind spec_l1Split -/
/-- A text parted at each c. -/
def spl (c : UInt8) : List UInt8 → List (List UInt8)
  | [] => [[]]
  | b :: r => if b = c then [] :: spl c r else (b :: (spl c r).headD []) :: (spl c r).tail
theorem spl_cons (c : UInt8) : ∀ s, spl c s = (spl c s).headD [] :: (spl c s).tail
  | [] => rfl
  | b :: r => by
    rw [spl]
    split <;> rfl
theorem spl_sizes (c : UInt8) : ∀ s, ((spl c s).map (fun x => x.length + 1)).sum = s.length + 1
  | [] => rfl
  | b :: r => by
    have ih := spl_sizes c r
    rw [spl]
    by_cases h : b = c
    · rw [if_pos h, List.map_cons, List.sum_cons, ih, List.length_cons, List.length_nil]; omega
    · rw [spl_cons, List.map_cons, List.sum_cons] at ih
      rw [if_neg h, List.map_cons, List.sum_cons, List.length_cons, List.length_cons]; omega
theorem spl_len (c : UInt8) : ∀ s, (spl c s).length ≤ s.length + 1
  | [] => by simp [spl]
  | b :: r => by
    have ih := spl_len c r
    rw [spl_cons c r, List.length_cons] at ih
    rw [spl]
    split
    · rw [spl_cons c r, List.length_cons, List.length_cons, List.length_cons]; omega
    · rw [List.length_cons, List.length_cons]; omega
theorem mem_sum : ∀ (l : List (List UInt8)) (x : List UInt8), x ∈ l → x.length + 1 ≤ (l.map (fun x => x.length + 1)).sum
  | a :: l, x, h => by
    rw [List.map_cons, List.sum_cons]
    rcases List.mem_cons.1 h with rfl | h
    · omega
    · have := mem_sum l x h
      omega
theorem spl_mem (c : UInt8) : ∀ s, ∀ x ∈ spl c s, x.length ≤ s.length := by
  intro s x hx
  have h := spl_sizes c s
  have h2 := mem_sum (spl c s) x hx
  omega
theorem bt_ba (s : List UInt8) (i : Nat) (h : i < s.length) : bt (baOf s) (i : Int) = (s[i].toNat : Int) := by
  unfold bt
  rw [dif_pos (by rw [Int.toNat_natCast, baOf_size]; exact h)]
  rfl
theorem ba_extract (s : List UInt8) (f i : Nat) : (baOf s).extract f i = baOf ((s.drop f).take (i - f)) := by
  rw [← ba_self ((baOf s).extract f i), Lib.extract_data, baOf_list]
theorem u8_eq (b : UInt8) (n : Nat) (hn : n < 256) : (b.toNat : Int) = n ↔ b = UInt8.ofNat n := by
  constructor
  · intro h
    apply UInt8.toNat_inj.1
    rw [UInt8.toNat_ofNat']
    omega
  · rintro rfl
    rw [UInt8.toNat_ofNat']
    omega
theorem l1Split_l0 (s : List UInt8) (hs : s.length ≤ 1000000) : ∀ (d k i f : Nat) (out : List (List UInt8)), f ≤ i → i ≤ s.length → s.length - i = d → d < k → out.length ≤ f →
    spec_l1Split.l0 k (baOf s) 45 (out.map baOf) (f : Int) (i : Int) = some ((out ++ ((s.drop f).take (i - f) ++ (spl 45 (s.drop i)).headD []) :: (spl 45 (s.drop i)).tail).map baOf)
  | 0, k, i, f, out, h1, hi, hd, hk, ho => by
    obtain ⟨k, rfl⟩ : ∃ m, k = m + 1 := ⟨k - 1, by omega⟩
    obtain rfl : i = s.length := by omega
    rw [spec_l1Split.l0, if_neg (by rw [baOf_size]; omega), if_pos (by omega), if_pos (by rw [baOf_size]; omega), if_pos (by rw [List.length_map]; omega), Int.toNat_natCast, baOf_size, ba_extract]
    rw [List.drop_of_length_le (Nat.le_refl _), List.map_append]
    simp [spl]
  | d + 1, k, i, f, out, h1, hi, hd, hk, ho => by
    obtain ⟨k, rfl⟩ : ∃ m, k = m + 1 := ⟨k - 1, by omega⟩
    have hlt : i < s.length := by omega
    have e2 : wrap64 ((i : Int) + 1) = ((i + 1 : Nat) : Int) := by unfold wrap64; omega
    have hdr := List.drop_eq_getElem_cons hlt
    have hu : (s[i].toNat : Int) = 45 ↔ s[i] = 45 := u8_eq s[i] 45 (by omega)
    rw [spec_l1Split.l0, if_pos (by rw [baOf_size]; clear e2; omega), if_pos (by clear e2; omega), bt_ba s i hlt, e2]
    by_cases hb : s[i] = 45
    · rw [if_pos (hu.2 hb), if_pos (by clear e2; omega), if_pos (by clear e2; omega), if_pos (by rw [baOf_size]; clear e2; omega), if_pos (by rw [List.length_map]; clear e2; omega), Int.toNat_natCast, Int.toNat_natCast, ba_extract]
      have ih := l1Split_l0 s hs d k (i + 1) (i + 1) (out ++ [(s.drop f).take (i - f)]) (by clear e2; omega) (by clear e2; omega) (by clear e2; omega) (by clear e2; omega) (by rw [List.length_append, List.length_singleton]; clear e2; omega)
      rw [List.map_append, List.map_singleton] at ih
      rw [ih, hdr, spl, if_pos hb, Nat.sub_self, List.take_zero, List.nil_append, ← spl_cons, List.headD_cons, List.tail_cons, List.append_nil]
      simp
    · rw [if_neg (fun h => hb (hu.1 h)), l1Split_l0 s hs d k (i + 1) f out (by clear e2; omega) (by clear e2; omega) (by clear e2; omega) (by clear e2; omega) ho, hdr, spl, if_neg hb, List.headD_cons, List.tail_cons]
      have et : (s.drop f).take (i + 1 - f) = (s.drop f).take (i - f) ++ [s[i]] := by
        rw [show i + 1 - f = (i - f) + 1 by clear e2; omega, List.take_add_one, List.getElem?_drop, show f + (i - f) = i by clear e2; omega, List.getElem?_eq_getElem hlt]; rfl
      rw [et, List.append_assoc]; rfl
theorem l1Split_is (s : List UInt8) (hs : s.length ≤ 1000000) (k : Nat) (hk : s.length < k) : spec_l1Split.f k (baOf s) 45 = some ((spl 45 s).map baOf) := by
  have h := l1Split_l0 s hs s.length k 0 0 [] (by omega) (by omega) (by omega) hk (by simp)
  unfold spec_l1Split.f
  rw [List.drop_zero, Nat.sub_self, List.take_zero, List.nil_append, List.nil_append, ← spl_cons] at h
  exact h

end Go.Proofs.YtaniojfokildiaaDoor.PrintA
