-- written by this session's own driver (wip/gen.py) with the kit's print and contracts of our own
import Derived.Test.YteboofglcnceoaaPrintA0
import Derived.Test.YteboofglcnceoaaPrintA26
import Derived.Test.YteboofglcnceoaaPrintA29
namespace Go.Proofs.Yteboofglcnceoaa.PrintA
open Go.RowKit Go.Proofs.YteboofglcnceoaaLib Go.Proofs.YteboofglcnceoaaW.PrintWords Go.Proofs.YteboofglcnceoaaW.PrintLast Go.Proofs.YteboofglcnceoaaW.PrintMore
attribute [local go_sem] max2_int min2_int max_two min_two max_three min_three max_four min_four   -- for this text's walks alone
set_option linter.unusedVariables false
set_option linter.unusedSimpArgs false

/-! ### laws_FnExactFirstKindTest: function 5, a law -/
/-- THE ONE PURE STATEMENT of laws_FnExactFirstKindTest. -/
def laws_FnExactFirstKindTest.Pure : Prop := ∀ (a0 : Int) (a1 : Int) (a2 : Int), (Lit.int .i64 a0).wf = true → (Lit.int .i64 a1).wf = true → (Lit.int .i64 a2).wf = true → ∃ (r1 : Bool) (r2 : Int) (r3 : Bool), spec_FirstKindTest.f a0 a1 a2 = some (r1, r2, r3) ∧ impl_FirstKindTest.f a0 a1 a2 = some (r1, r2, r3)
set_option maxHeartbeats 8000000 in
set_option maxRecDepth 100000 in
theorem laws_FnExactFirstKindTest.alike (a0 : Int) (a1 : Int) (a2 : Int) (r1 : Bool) (r2 : Int) (r3 : Bool) (w : World)  (hs : spec_FirstKindTest.f a0 a1 a2 = some (r1, r2, r3)) (hi : impl_FirstKindTest.f a0 a1 a2 = some (r1, r2, r3)) :
    Calls Try.prog 5 #[.int .i64 a0, .int .i64 a1, .int .i64 a2] w fun e w' => e = .returned (.bool true) ∧ Below w.heap.size w w' := by
  have HS := Aside0.mk hs
  have HI := Aside0.mk hi
  clear hs hi
  have HB := Aside0.mk (Below.refl w.heap.size w)
  go_enter Try.func5, Try.ntmps5
  go_wp2_with fail
  refine (spec_FirstKindTest.calls a0 a1 a2 r1 r2 r3 _  HS.out).mono ?_
  rintro e w1_ ⟨rfl, hb⟩
  have HB0 : Aside0 (w.heap.size ≤ w.heap.size) := ⟨HB.out.size⟩
  have HZ1 : Aside0 (w.heap.size ≤ w1_.heap.size) := ⟨hb.size⟩
  have HB_ := Aside0.mk (below_step HB.out hb)
  clear HB hb
  have HB := HB_
  clear HB_
  clear HB0
  go_wp2_with fail
  refine (impl_FirstKindTest.calls a0 a1 a2 r1 r2 r3 _  HI.out).mono ?_
  rintro e w2_ ⟨rfl, hb⟩
  have HB0 : Aside0 (w.heap.size ≤ w1_.heap.size) := ⟨HB.out.size⟩
  have HZ2 : Aside0 (w1_.heap.size ≤ w2_.heap.size) := ⟨hb.size⟩
  have HB_ := Aside0.mk (below_step HB.out hb)
  clear HB hb
  have HB := HB_
  clear HB_
  clear HB0
  go_wp2
  go_ret
  exact ⟨rfl, HB.out⟩
set_option maxHeartbeats 4000000 in
set_option maxRecDepth 100000 in
theorem laws_FnExactFirstKindTest.walk (P : laws_FnExactFirstKindTest.Pure) (a0 : Int) (a1 : Int) (a2 : Int) (w : World) (w0 : (Lit.int .i64 a0).wf = true) (w1 : (Lit.int .i64 a1).wf = true) (w2 : (Lit.int .i64 a2).wf = true) :
    Calls Try.prog 5 #[.int .i64 a0, .int .i64 a1, .int .i64 a2] w fun e w' => e = .returned (.bool true) ∧ Below w.heap.size w w' := by
  obtain ⟨r1, r2, r3, hs, hi⟩ := P a0 a1 a2 w0 w1 w2
  exact laws_FnExactFirstKindTest.alike  a0 a1 a2 r1 r2 r3 w  hs hi


end Go.Proofs.Yteboofglcnceoaa.PrintA
