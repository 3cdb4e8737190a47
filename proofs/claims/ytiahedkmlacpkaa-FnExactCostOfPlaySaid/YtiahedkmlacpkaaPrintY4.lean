-- written by this session's own driver (wip/gen.py) with the kit's print and contracts of our own
import Derived.Test.YtiahedkmlacpkaaPrintY0
import Derived.Test.YtiahedkmlacpkaaPrintY1
import Derived.Test.YtiahedkmlacpkaaPrintY2
import Derived.Test.YtiahedkmlacpkaaPrintY3
namespace Go.Proofs.Ytiahedkmlacpkaa.PrintY
open Go.RowKit Go.Proofs.YtiahedkmlacpkaaLib Go.Proofs.YtiahedkmlacpkaaW.PrintWords Go.Proofs.YtiahedkmlacpkaaW.PrintLast Go.Proofs.YtiahedkmlacpkaaW.PrintMore
attribute [local go_sem] max2_int min2_int max_two min_two max_three min_three max_four min_four   -- for this text's walks alone
set_option linter.unusedVariables false
set_option linter.unusedSimpArgs false

/-! behind spec_flFew -/
theorem spec_flFew_l1 (e : Nat) (n x6 : Int) (he : e ≤ 10) (t : Nat) : ∀ x k, x ≤ e → spec_flFew.l1 (k + x + 1) e n (rowL t x e) x6 x = spec_flFew.l0 k e n (rowL (t + 1) e e) (wrap64 (x6 + 1))
  | 0, k, _ => by
    rw [show k + 0 + 1 = k + 1 from rfl, spec_flFew.l1, if_neg (by omega), rowL_zero]
  | x + 1, k, hx => by
    have hl : ((rowL t (x + 1) e).length : Int) = e + 1 := by rw [rowL_len]; omega
    have e1 : wrap64 (((x + 1 : Nat) : Int) - 1) = (x : Int) := by unfold wrap64; omega
    have r1 := rowL_rd t (x + 1) e x (by omega)
    have r2 := rowL_rd t (x + 1) e (x + 1) (by omega)
    rw [if_neg (by omega)] at r1 r2
    have g1 := rch_range t x
    have g2 := rch_range t (x + 1)
    have e2 : wrap64 (wrap64 (rch t x + rch t (x + 1)) + 1) = rch t x + rch t (x + 1) + 1 := by unfold wrap64; omega
    have e3 : min (rch t x + rch t (x + 1) + 1) 1000000001 = rch (t + 1) (x + 1) := by simp only [rch]; omega
    rw [show k + (x + 1) + 1 = (k + x + 1) + 1 by omega, spec_flFew.l1, e1, hl, if_pos (by omega), if_pos (by omega), if_pos (by omega), if_pos (by omega), if_pos (by omega), r1, r2, e2, spec_l1Least_is, Option.bind_some, e3, Int.toNat_natCast, rowL_set t (x + 1) e (by omega), Nat.add_sub_cancel]
    exact spec_flFew_l1 e n x6 he t x k (by omega)
theorem spec_flFew_l0 (e : Nat) (n : Int) (he : e ≤ 10) (he1 : 1 ≤ e) (hn : n ≤ 1000) : ∀ (d k t : Nat), few e n - t = d → t ≤ few e n → (d + 1) * 13 ≤ k → spec_flFew.l0 k e n (rowL t e e) t = some (few e n : Int) := by
  intro d
  induction d with
  | zero =>
    intro k t hd ht hk
    obtain ⟨k, rfl⟩ : ∃ m, k = m + 1 := ⟨k - 1, by omega⟩
    have hs := few_step e n he1 hn t ht
    have r1 := rowL_rd t e e e (by omega)
    rw [if_neg (by omega)] at r1
    rw [spec_flFew.l0, rowL_len, r1, if_pos (by omega), if_pos (by omega), if_neg (by omega), show t = few e n by omega]
  | succ d ih =>
    intro k t hd ht hk
    obtain ⟨k, rfl⟩ : ∃ m, k = m + e + 1 + 1 := ⟨k - e - 2, by omega⟩
    have hs := few_step e n he1 hn t ht
    have r1 := rowL_rd t e e e (by omega)
    rw [if_neg (by omega)] at r1
    have h1000 := few_le e n
    have e1 : wrap64 ((t : Int) + 1) = ((t + 1 : Nat) : Int) := by unfold wrap64; omega
    rw [spec_flFew.l0, rowL_len, r1, if_pos (by omega), if_pos (by omega), if_pos (by omega), spec_flFew_l1 e n t he t e k (by omega), e1]
    exact ih k (t + 1) (by omega) (by omega) (by omega)
theorem spec_flFew_is (e : Nat) (n : Int) (he : e ≤ 10) (he1 : 1 ≤ e) (hn : n ≤ 1000) (k : Nat) (hk : 20000 ≤ k) : spec_flFew.f k e n = some (few e n : Int) := by
  have e1 : wrap64 ((e : Int) + 1) = ((e + 1 : Nat) : Int) := by unfold wrap64; omega
  have h1000 := few_le e n
  unfold spec_flFew.f
  rw [e1, if_pos (by omega), if_pos (by omega), Int.toNat_natCast, rowL_start]
  exact spec_flFew_l0 e n he he1 hn _ k 0 rfl (by omega) (by omega)

end Go.Proofs.Ytiahedkmlacpkaa.PrintY
