-- written by this session's own driver (wip/gen.py) with the kit's print and contracts of our own
import Derived.Test.YteboofglcnceoaaPrintA0
import Derived.Test.YteboofglcnceoaaPrintA23
namespace Go.Proofs.Yteboofglcnceoaa.PrintA
open Go.RowKit Go.Proofs.YteboofglcnceoaaLib Go.Proofs.YteboofglcnceoaaW.PrintWords Go.Proofs.YteboofglcnceoaaW.PrintLast Go.Proofs.YteboofglcnceoaaW.PrintMore
attribute [local go_sem] max2_int min2_int max_two min_two max_three min_three max_four min_four   -- for this text's walks alone
set_option linter.unusedVariables false
set_option linter.unusedSimpArgs false

/-! ### laws_FnExactFewestForWeak: function 3, a law -/
/-- THE ONE PURE STATEMENT of laws_FnExactFewestForWeak. -/
def laws_FnExactFewestForWeak.Pure : Prop := ∀ (a0 : Int) (a1 : Int) (a2 : Int), (Lit.int .i64 a0).wf = true → (Lit.int .i64 a1).wf = true → (Lit.int .i64 a2).wf = true → ∃ (r1 : Int) (r2 : Bool), spec_FewestForWeak.f a0 a1 a2 = some (r1, r2) ∧ impl_FewestForWeak.f a0 a1 a2 = some (r1, r2)
set_option maxHeartbeats 8000000 in
set_option maxRecDepth 100000 in
theorem laws_FnExactFewestForWeak.alike (a0 : Int) (a1 : Int) (a2 : Int) (r1 : Int) (r2 : Bool) (w : World)  (hs : spec_FewestForWeak.f a0 a1 a2 = some (r1, r2)) (hi : impl_FewestForWeak.f a0 a1 a2 = some (r1, r2)) :
    Calls Try.prog 3 #[.int .i64 a0, .int .i64 a1, .int .i64 a2] w fun e w' => e = .returned (.bool true) ∧ Below w.heap.size w w' := by
  have HS := Aside0.mk hs
  have HI := Aside0.mk hi
  clear hs hi
  have HB := Aside0.mk (Below.refl w.heap.size w)
  go_enter Try.func3, Try.ntmps3
  go_wp2_with fail
  refine (spec_FewestForWeak.calls a0 a1 a2 r1 r2 _  HS.out).mono ?_
  rintro e w1_ ⟨rfl, hb⟩
  have HB0 : Aside0 (w.heap.size ≤ w.heap.size) := ⟨HB.out.size⟩
  have HZ1 : Aside0 (w.heap.size ≤ w1_.heap.size) := ⟨hb.size⟩
  have HB_ := Aside0.mk (below_step HB.out hb)
  clear HB hb
  have HB := HB_
  clear HB_
  clear HB0
  go_wp2_with fail
  refine (impl_FewestForWeak.calls a0 a1 a2 r1 r2 _  HI.out).mono ?_
  rintro e w2_ ⟨rfl, hb⟩
  have HB0 : Aside0 (w.heap.size ≤ w1_.heap.size) := ⟨HB.out.size⟩
  have HZ2 : Aside0 (w1_.heap.size ≤ w2_.heap.size) := ⟨hb.size⟩
  have HB_ := Aside0.mk (below_step HB.out hb)
  clear HB hb
  have HB := HB_
  clear HB_
  clear HB0
  go_wp2
  go_ret
  exact ⟨rfl, HB.out⟩
set_option maxHeartbeats 4000000 in
set_option maxRecDepth 100000 in
theorem laws_FnExactFewestForWeak.walk (P : laws_FnExactFewestForWeak.Pure) (a0 : Int) (a1 : Int) (a2 : Int) (w : World) (w0 : (Lit.int .i64 a0).wf = true) (w1 : (Lit.int .i64 a1).wf = true) (w2 : (Lit.int .i64 a2).wf = true) :
    Calls Try.prog 3 #[.int .i64 a0, .int .i64 a1, .int .i64 a2] w fun e w' => e = .returned (.bool true) ∧ Below w.heap.size w w' := by
  obtain ⟨r1, r2, hs, hi⟩ := P a0 a1 a2 w0 w1 w2
  exact laws_FnExactFewestForWeak.alike  a0 a1 a2 r1 r2 w  hs hi


-- NOT PRINTED: function 20 (spec_kiFirst)

-- NOT PRINTED: function 10 (spec_FirstKindTest)

-- NOT PRINTED: function 32 (impl_KindTest)

-- NOT PRINTED: function 21 (impl_solver_first)

-- NOT PRINTED: function 11 (impl_FirstKindTest)

-- NOT PRINTED: function 5 (laws_FnExactFirstKindTest)

end Go.Proofs.Yteboofglcnceoaa.PrintA
