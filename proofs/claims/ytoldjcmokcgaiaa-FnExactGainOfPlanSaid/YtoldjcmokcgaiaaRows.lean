/-
  No cell of these rows narrows 'for every input' (looked for: loops, veiled, ifaces, maps, wideKeys, modest, calm, conditions, laid).
  DERIVED. THE GIVEN ROWS OF THIS SEAT. 3 by the template 'for every input the law returns true; each argument reads behind the call as it read before'; 0 by the template 'total and deterministic' (their statements: YtoldjcmokcgaiaaTotals.lean).
  GIVEN WITH THE SEED: the statements are not yours to turn. If you find one false, say at which input.
  Laid BY PROGRAM, IN A SANDBOX (cutbox-rows.mjs): the forced cells as the released guide's own fill.sh prints them over the translation ffb34ea96e3e5cc3… (all of the seat's roots in one cut). By AI agents, Wed Nov 11 2026. No macro, syntax, notation, axiom, sorry.
-/
import Derived.Test.YtoldjcmokcgaiaaChecked
import GoSem.Claim
import GoSem.ClaimJoined
import GoSem.ClaimMapViews
import Derived.JoinedTies
import Derived.KernelRfl
namespace Go.Proofs.Ytoldjcmokcgaiaa
/- THE CELL 'sum', in the pinned program and in every row, IS THE sha256 OF THE DUMP (.gsa) THAT YtoldjcmokcgaiaaProg.lean LOADS. Nothing in Lean hashes anything: it is a label: what it is worth is what the hold of that sum in a sandbox is worth. -/
noncomputable def Try.pinned : Pinned := { name := "ytoldjcmokcgaiaa", sum := "ffb34ea96e3e5cc3feb1610446839d6dcc315724d92544b5221a273776e05fa5", checked := Try.checked }
namespace Rows
def none {H : Type} : Left H := { results := [], args := [] }

/-- 'laws.FnExactFewestForHouses': WHATEVER THE INPUT: true; the input reads as it did. -/
def fnExactFewestForHousesSpec : ChangeSpec := { name := "fnExactFewestForHouses", fn := fun _ => fun
  | [d1, d2] => { results := [.lit (.bool true)], args := [d1, d2] }
  | _ => none }
def fnExactFewestForHousesRow : OpenClaim := { program := "ytoldjcmokcgaiaa", sum := "ffb34ea96e3e5cc3feb1610446839d6dcc315724d92544b5221a273776e05fa5", func := "loop.example/g01325/laws.FnExactFewestForHouses", spec := "fnExactFewestForHouses", unfollowed := true, recurses := true, plainKeys := false, apart := false }
def FnExactFewestForHousesSaid : Prop := fnExactFewestForHousesRow.holds Try.pinned (OpenSpec.ofChange fnExactFewestForHousesSpec)

/-- ITS FALSE NEIGHBOUR: 'it returns false'. Refute it at one input. -/
def fnExactFewestForHousesWrong : ChangeSpec := { name := "fnExactFewestForHouses", fn := fun _ => fun
  | [d1, d2] => { results := [.lit (.bool false)], args := [d1, d2] }
  | _ => none }
def FnExactFewestForHousesWrongFalsely : Prop := fnExactFewestForHousesRow.holds Try.pinned (OpenSpec.ofChange fnExactFewestForHousesWrong)

/-- 'laws.FnExactHouseTable': WHATEVER THE INPUT: true; the input reads as it did. -/
def fnExactHouseTableSpec : ChangeSpec := { name := "fnExactHouseTable", fn := fun _ => fun
  | [d] => { results := [.lit (.bool true)], args := [d] }
  | _ => none }
def fnExactHouseTableRow : OpenClaim := { program := "ytoldjcmokcgaiaa", sum := "ffb34ea96e3e5cc3feb1610446839d6dcc315724d92544b5221a273776e05fa5", func := "loop.example/g01325/laws.FnExactHouseTable", spec := "fnExactHouseTable", unfollowed := true, recurses := true, plainKeys := false, apart := false }
def FnExactHouseTableSaid : Prop := fnExactHouseTableRow.holds Try.pinned (OpenSpec.ofChange fnExactHouseTableSpec)

/-- ITS FALSE NEIGHBOUR: 'it returns false'. Refute it at one input. -/
def fnExactHouseTableWrong : ChangeSpec := { name := "fnExactHouseTable", fn := fun _ => fun
  | [d] => { results := [.lit (.bool false)], args := [d] }
  | _ => none }
def FnExactHouseTableWrongFalsely : Prop := fnExactHouseTableRow.holds Try.pinned (OpenSpec.ofChange fnExactHouseTableWrong)

/-- 'laws.FnExactGainOfPlan': WHATEVER THE INPUT: true; the input reads as it did. -/
def fnExactGainOfPlanSpec : ChangeSpec := { name := "fnExactGainOfPlan", fn := fun _ => fun
  | [d1, d2] => { results := [.lit (.bool true)], args := [d1, d2] }
  | _ => none }
def fnExactGainOfPlanRow : OpenClaim := { program := "ytoldjcmokcgaiaa", sum := "ffb34ea96e3e5cc3feb1610446839d6dcc315724d92544b5221a273776e05fa5", func := "loop.example/g01325/laws.FnExactGainOfPlan", spec := "fnExactGainOfPlan", unfollowed := true, recurses := true, plainKeys := false, apart := false }
def FnExactGainOfPlanSaid : Prop := fnExactGainOfPlanRow.holds Try.pinned (OpenSpec.ofChange fnExactGainOfPlanSpec)

/-- ITS FALSE NEIGHBOUR: 'it returns false'. Refute it at one input. -/
def fnExactGainOfPlanWrong : ChangeSpec := { name := "fnExactGainOfPlan", fn := fun _ => fun
  | [d1, d2] => { results := [.lit (.bool false)], args := [d1, d2] }
  | _ => none }
def FnExactGainOfPlanWrongFalsely : Prop := fnExactGainOfPlanRow.holds Try.pinned (OpenSpec.ofChange fnExactGainOfPlanWrong)

/- THE SECOND FORM. 'bulk': how many values and letters a reading holds, each counted each time it is reached (what is shared counts as often as it is met; a slice's spare places count too). A statement '..UptoSaid' is the law's where the arguments, and the package variables that the reading takes, are together of bulk at most 1048576: NARROWER than '..Said'. Prove '..Said' where nothing that the law and all that it calls make is longer than what came in: it says more and counts as full. Else prove '..UptoSaid'. A law counts once. -/
mutual
def uptoBulk {H : Type} : DataW H → Nat
  | .lit (.string bytes) => bytes.length + 1
  | .lit _ => 1
  | .nil => 1
  | .ptr d => uptoBulk d + 1
  | .slice elems spare => uptoBulkAll elems + uptoBulkAll spare + 1
  | .agg parts => uptoBulkAll parts + 1
  | .iface _ d => uptoBulk d + 1
  | .map entries => uptoBulkEntries entries + 1
  | .held _ => 1
def uptoBulkAll {H : Type} : List (DataW H) → Nat
  | [] => 0
  | d :: r => uptoBulk d + uptoBulkAll r
def uptoBulkEntries {H : Type} : List (Lit × DataW H) → Nat
  | [] => 0
  | x :: r => uptoBulkEntry x + uptoBulkEntries r
def uptoBulkEntry {H : Type} : Lit × DataW H → Nat
  | (.string bytes, d) => bytes.length + uptoBulk d + 1
  | (_, d) => uptoBulk d + 1
 end
def uptoSmall : (H : Type) → List (DataW H) → Bool := fun _ ds => decide (uptoBulkAll ds ≤ 1048576)
def OpenSpec.upto (s : _root_.Go.ChangeSpec) : _root_.Go.OpenSpec := { _root_.Go.OpenSpec.ofChange s with cond := some uptoSmall }

/-- 'laws.FnExactFewestForHouses', WHERE WHAT IT READS IS OF BULK AT MOST 1048576: true; the input reads as it did. -/
def fnExactFewestForHousesUptoRow : OpenClaim := { program := "ytoldjcmokcgaiaa", sum := "ffb34ea96e3e5cc3feb1610446839d6dcc315724d92544b5221a273776e05fa5", func := "loop.example/g01325/laws.FnExactFewestForHouses", spec := "fnExactFewestForHouses", unfollowed := true, recurses := true, plainKeys := false, apart := false, narrowed := true }
def FnExactFewestForHousesUptoSaid : Prop := fnExactFewestForHousesUptoRow.holds Try.pinned (OpenSpec.upto fnExactFewestForHousesSpec)

/-- 'laws.FnExactHouseTable', WHERE WHAT IT READS IS OF BULK AT MOST 1048576: true; the input reads as it did. -/
def fnExactHouseTableUptoRow : OpenClaim := { program := "ytoldjcmokcgaiaa", sum := "ffb34ea96e3e5cc3feb1610446839d6dcc315724d92544b5221a273776e05fa5", func := "loop.example/g01325/laws.FnExactHouseTable", spec := "fnExactHouseTable", unfollowed := true, recurses := true, plainKeys := false, apart := false, narrowed := true }
def FnExactHouseTableUptoSaid : Prop := fnExactHouseTableUptoRow.holds Try.pinned (OpenSpec.upto fnExactHouseTableSpec)

/-- 'laws.FnExactGainOfPlan', WHERE WHAT IT READS IS OF BULK AT MOST 1048576: true; the input reads as it did. -/
def fnExactGainOfPlanUptoRow : OpenClaim := { program := "ytoldjcmokcgaiaa", sum := "ffb34ea96e3e5cc3feb1610446839d6dcc315724d92544b5221a273776e05fa5", func := "loop.example/g01325/laws.FnExactGainOfPlan", spec := "fnExactGainOfPlan", unfollowed := true, recurses := true, plainKeys := false, apart := false, narrowed := true }
def FnExactGainOfPlanUptoSaid : Prop := fnExactGainOfPlanUptoRow.holds Try.pinned (OpenSpec.upto fnExactGainOfPlanSpec)

end Rows
end Go.Proofs.Ytoldjcmokcgaiaa
