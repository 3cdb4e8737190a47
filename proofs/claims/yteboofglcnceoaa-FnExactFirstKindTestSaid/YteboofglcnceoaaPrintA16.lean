-- written by this session's own driver (wip/gen.py) with the kit's print and contracts of our own
import Derived.Test.YteboofglcnceoaaPrintA0
import Derived.Test.YteboofglcnceoaaPrintA14
import Derived.Test.YteboofglcnceoaaPrintA15
import Derived.Test.YteboofglcnceoaaPrintA21
namespace Go.Proofs.Yteboofglcnceoaa.PrintA
open Go.RowKit Go.Proofs.YteboofglcnceoaaLib Go.Proofs.YteboofglcnceoaaW.PrintWords Go.Proofs.YteboofglcnceoaaW.PrintLast Go.Proofs.YteboofglcnceoaaW.PrintMore
attribute [local go_sem] max2_int min2_int max_two min_two max_three min_three max_four min_four   -- for this text's walks alone
set_option linter.unusedVariables false
set_option linter.unusedSimpArgs false

/-! behind impl_isKindHouse -/
-- LIB Kinds
theorem isKindHouse_is (a b c : Int) : impl_isKindHouse.f a b c = some (kAsk a b c) := by
  unfold impl_isKindHouse.f impl_isKindFloors.f kAsk
  simp only [impl_within_is, Option.bind_some]
  cases (decide (1 ≤ a) && decide (a ≤ 3)) <;> cases (decide (1 ≤ b) && decide (b ≤ 3)) <;> cases (decide (0 ≤ c) && decide (c ≤ 6)) <;> rfl

/-! ### impl_newSolver: function 17, a contract of our own -/
set_option maxHeartbeats 8000000 in
set_option maxRecDepth 100000 in
theorem newSolver_calls (al : Bool) (w : World) : Calls Try.prog 17 #[.bool al] w fun e w' => ∃ gs mb, e = .returned (.pointer (some ⟨gs, 0, none⟩)) ∧ gs ≠ mb ∧ w'.heap[gs]? = some (.cells #[.bool al, .map (some mb)] 52 (0, 0)) ∧ Memo al w' mb 0 ∧ Below w.heap.size w w' ∧ w.heap.size ≤ mb := by
  have HB := Aside0.mk (below_alloc (Below.refl w.heap.size w) (.map #[] 0))
  have HM := Aside0.mk (Memo.start al w)
  have hmm := @run_makeMap Try.prog
  go_enter Try.func17, Try.ntmps17
  go_wp2_with ((with_reducible refine gate_dst (N := 6) rfl ?_); refine box_event ?hg (N := 6) ?hd (cs := #[.bool al, .map (some w.heap.size)]) (t := 52) ?hr ?_; (case hd => rfl); (case hg => rfl); (case hr => first | (go_simp; done) | (go_simp; rfl)); intro gs hg w2 hbox hb; have KS := Aside0.mk hbox; have n1_ := Aside0.mk (Memo.below HM.out hb); have n2_ := Aside0.mk (below_step HB.out hb); have NE := Aside0.mk (show gs ≠ w.heap.size by intro he; have h1_ := Memo.lt HM.out; omega); clear HM HB; have HM := n1_; have HB := n2_; clear n1_ n2_ hg hbox hb)
  go_ret
  exact ⟨gs, w.heap.size, rfl, NE.out, KS.out, HM.out, HB.out, Nat.le_refl _⟩

end Go.Proofs.Yteboofglcnceoaa.PrintA
