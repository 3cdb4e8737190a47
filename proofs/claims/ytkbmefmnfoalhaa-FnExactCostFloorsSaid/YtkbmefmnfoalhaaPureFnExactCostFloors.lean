/- The law FnExactCostFloors holds: for every input the program's CostFloors returns what the reference's returns, in every field, leaves its arguments as they were, and shares no memory. Conditions: none but those of the given statement. -/
import Derived.Test.YtkbmefmnfoalhaaPrintC6
import Derived.Test.YtkbmefmnfoalhaaPrintC15
import Derived.Test.YtkbmefmnfoalhaaPrintC29
import Derived.Test.YtkbmefmnfoalhaaPrintC30
import Derived.Test.YtkbmefmnfoalhaaPrintC31
import Derived.Test.YtkbmefmnfoalhaaPrintC32
import Derived.Test.YtkbmefmnfoalhaaPrintC33
namespace Go.Proofs.Ytkbmefmnfoalhaa.Pure
open Go.RowKit Go.Proofs.Ytkbmefmnfoalhaa.PrintC Go.Proofs.YtkbmefmnfoalhaaW.PrintWords Go.Proofs.YtkbmefmnfoalhaaW.PrintLast Go.Proofs.YtkbmefmnfoalhaaLib
set_option linter.unusedVariables false
set_option linter.unusedSimpArgs false

theorem flS_flI {E T C : Int} (p : Prs E T C) (e n : Nat) (hn : n ≤ 60) (he : 1 ≤ e) : ∀ f, f ≤ n → flS E T C e n f = flI E T C e n f
  | 0, _ => rfl
  | f + 1, h => by
    rw [flS, flI, flS_flI p e n hn he f (by omega)]
    by_cases hc : 2 ≤ e ∨ f + 1 = 1
    · by_cases hq : firstG E T C e n 0 (f + 1) = cst E T C e n 0
      · rw [if_pos ⟨hc, hq⟩, if_pos hq]
      · rw [if_neg (fun h => hq h.2), if_neg hq]
    · obtain rfl : e = 1 := by omega
      have b1 := firstG_big p n 0 (f + 1) hn (by omega) h
      have b2 := (cst_range p n hn 1 0).2 (by omega)
      rw [if_neg (fun h => hc h.1), if_neg (by omega)]
theorem FnExactCostFloors : laws_FnExactCostFloors.Pure := by
  intro p q r a n _ _ _ _ _
  have h1 := asked_is p q r a n 11 (by omega)
  have h2 := costly_is p q r a n
  obtain ⟨b, hb⟩ : ∃ b, impl_isCostly.f p q r a n = some b := ⟨_, h2⟩
  have hs : spec_csAsked.f 11 p q r a n = some b := by rw [h1, ← h2, hb]
  cases b with
  | false =>
    refine ⟨11, [], false, ?_, ?_, by simp⟩
    · unfold spec_CostFloors.f; rw [hs]; rfl
    · unfold impl_CostFloors.f; rw [hb]; rfl
  | true =>
    obtain ⟨⟨⟨p0, p1⟩, ⟨p2, p3⟩, ⟨p4, p5⟩⟩, ⟨ha, hc⟩, ⟨hd, he⟩⟩ := costly_true hb
    have hP : Prs p q r := ⟨p0, p1, p2, p3, p4, p5⟩
    have hfl := flS_flI hP a.toNat n.toNat (by omega) (by omega) n.toNat (Nat.le_refl _)
    refine ⟨11, flI p q r a.toNat n.toNat n.toNat, true, ?_, ?_, ?_⟩
    · unfold spec_CostFloors.f; rw [hs, Option.bind_some, if_pos rfl, hfl]
    · unfold impl_CostFloors.f; rw [hb, Option.bind_some, if_pos rfl]
    · have := flI_len p q r a.toNat n.toNat n.toNat; omega

end Go.Proofs.Ytkbmefmnfoalhaa.Pure
