-- written by this session's own driver (wip/gen.py) with the kit's print and contracts of our own
import Derived.Test.YtiahedkmlacpkaaPrintA0
import Derived.Test.YtiahedkmlacpkaaPrintA26
import Derived.Test.YtiahedkmlacpkaaPrintA27
namespace Go.Proofs.Ytiahedkmlacpkaa.PrintA
open Go.RowKit Go.Proofs.YtiahedkmlacpkaaW.PrintWords Go.Proofs.YtiahedkmlacpkaaW.PrintLast Go.Proofs.YtiahedkmlacpkaaW.PrintMore
attribute [local go_sem] max2_int min2_int max_two min_two max_three min_three max_four min_four   -- for this text's walks alone
set_option linter.unusedVariables false
set_option linter.unusedSimpArgs false

/-! behind laws_eqDropS -/
theorem eqDropS_l0 (L : List S56) (hL : L.length ≤ 100000000) : ∀ (d k : Nat) (i : Int), 0 ≤ i → i ≤ L.length → (L.length : Int) - i = d → d < k → laws_eqDropS.l0 k L L i = some true := by
  intro d
  induction d with
  | zero =>
    intro k i h0 h1 hd hk
    obtain ⟨k, rfl⟩ : ∃ m, k = m + 1 := ⟨k - 1, by omega⟩
    simp only [laws_eqDropS.l0]; rw [if_neg (by omega)]
  | succ d ih =>
    intro k i h0 h1 hd hk
    obtain ⟨k, rfl⟩ : ∃ m, k = m + 1 := ⟨k - 1, by omega⟩
    have hlt : i < (L.length : Int) := by omega
    have e : wrap64 (i + 1) = i + 1 := by unfold wrap64; omega
    have q : ∀ (a : Int) (b : Bool), laws_eqDrop.f a b a b = some true := fun a b => by unfold laws_eqDrop.f; simp
    simp only [laws_eqDropS.l0]
    rw [if_pos hlt, if_pos h0, if_pos hlt, q, Option.bind_some, if_pos rfl, e]
    exact ih k (i + 1) (by omega) (by omega) (by omega) (by omega)
theorem eqDropS_alike (A : Option Addr) (c : Nat) (A' : Option Addr) (c' : Nat) (l : List S56) (w : World) (h1 : Kd.C k56 w A l.length l) (h2 : l.length ≤ c) (h3 : Kd.C k56 w A' l.length l) (h4 : l.length ≤ c') (hl : l.length ≤ 1000000) :
    Calls Try.prog 17 #[.slice A l.length c, .slice A' l.length c'] w fun e w' => e = .returned (.bool true) ∧ Below w.heap.size w w' := by
  refine laws_eqDropS.calls (l.length + 1) A c l A' c' l true w h1 h2 h3 h4 ?_
  unfold laws_eqDropS.f
  rw [if_pos rfl]
  exact eqDropS_l0 l (by omega) l.length (l.length + 1) 0 (by omega) (by omega) (by omega) (by omega)

end Go.Proofs.Ytiahedkmlacpkaa.PrintA
