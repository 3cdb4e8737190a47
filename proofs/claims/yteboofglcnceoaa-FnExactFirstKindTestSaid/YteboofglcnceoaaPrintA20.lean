-- written by this session's own driver (wip/gen.py) with the kit's print and contracts of our own
import Derived.Test.YteboofglcnceoaaPrintA0
import Derived.Test.YteboofglcnceoaaPrintA18
import Derived.Test.YteboofglcnceoaaPrintA19
namespace Go.Proofs.Yteboofglcnceoaa.PrintA
open Go.RowKit Go.Proofs.YteboofglcnceoaaLib Go.Proofs.YteboofglcnceoaaW.PrintWords Go.Proofs.YteboofglcnceoaaW.PrintLast Go.Proofs.YteboofglcnceoaaW.PrintMore
attribute [local go_sem] max2_int min2_int max_two min_two max_three min_three max_four min_four   -- for this text's walks alone
set_option linter.unusedVariables false
set_option linter.unusedSimpArgs false

/-! behind impl_knowledge_behind -/
-- LIB Kinds
theorem behind_is (k : KSt) (hk : KOk k) (t : Bool × Int) (ht : t ∈ kTests k) (br : Bool) : impl_knowledge_behind.f 1 k.a k.b k.c k.d k.w k.s t.1 t.2 br = some ((kAft k t.1 t.2 br).a, (kAft k t.1 t.2 br).b, (kAft k t.1 t.2 br).c, (kAft k t.1 t.2 br).d, (kAft k t.1 t.2 br).w, (kAft k t.1 t.2 br).s) := by
  have hmn : ∀ x y : Int, mn x y = min x y := fun x y => by unfold mn; split <;> omega
  have hmx : ∀ x y : Int, mx x y = max x y := fun x y => by unfold mx; split <;> omega
  obtain ⟨a, b, c, d, we, se⟩ := k
  obtain ⟨h1, h2, h3, h4, h5, h6, h7, h8, h9, h10⟩ := hk
  obtain ⟨st, f⟩ := t
  simp only at h1 h2 h3 h4 h5 h6 h7 h8 h9 h10
  rcases kTests_mem _ ht with ⟨hs, g1, g2, g3⟩ | ⟨hs, g1, g2, g3⟩ <;> simp only at hs g1 g2 g3 <;> subst hs <;> cases br <;> clear ht
  · simp [impl_knowledge_behind.f, impl_knowledge_behind.j0, impl_knowledge_tight.f, hmn, hmx, kAft, kBeh, kTight]
  · have e2 : wrap64 (f - 1) = f - 1 := by unfold wrap64; omega
    have e3 : wrap64 (we - 1) = we - 1 := by clear e2; unfold wrap64; omega
    simp [impl_knowledge_behind.f, impl_knowledge_behind.j0, impl_knowledge_tight.f, hmn, hmx, kAft, kBeh, kTight, e2, e3]
  · simp [impl_knowledge_behind.f, impl_knowledge_behind.j0, impl_knowledge_tight.f, hmn, hmx, kAft, kBeh, kTight]
  · have e2 : wrap64 (f - 1) = f - 1 := by unfold wrap64; omega
    have e3 : wrap64 (se - 1) = se - 1 := by clear e2; unfold wrap64; omega
    simp [impl_knowledge_behind.f, impl_knowledge_behind.j0, impl_knowledge_tight.f, hmn, hmx, kAft, kBeh, kTight, e2, e3]

-- NOT PRINTED: function 31 (impl_solver_with)

end Go.Proofs.Yteboofglcnceoaa.PrintA
