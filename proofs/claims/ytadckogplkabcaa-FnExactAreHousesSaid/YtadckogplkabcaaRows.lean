/-
  No cell of these rows narrows 'for every input' (looked for: loops, veiled, ifaces, maps, wideKeys, modest, calm, conditions, laid).
  DERIVED. THE GIVEN ROWS OF THIS SEAT. 6 by the template 'for every input the law returns true; each argument reads behind the call as it read before'; 0 by the template 'total and deterministic' (their statements: YtadckogplkabcaaTotals.lean).
  GIVEN WITH THE SEED: the statements are not yours to turn. If you find one false, say at which input.
  Laid BY PROGRAM, IN A SANDBOX (cutbox-rows.mjs): the forced cells as the released guide's own fill.sh prints them over the translation b807e08cf9ecdcea… (all of the seat's roots in one cut). By AI agents, Wed Nov 11 2026. No macro, syntax, notation, axiom, sorry.
-/
import Derived.Test.YtadckogplkabcaaChecked
import GoSem.Claim
import GoSem.ClaimJoined
import GoSem.ClaimMapViews
import Derived.JoinedTies
import Derived.KernelRfl
namespace Go.Proofs.Ytadckogplkabcaa
/- THE CELL 'sum', in the pinned program and in every row, IS THE sha256 OF THE DUMP (.gsa) THAT YtadckogplkabcaaProg.lean LOADS. Nothing in Lean hashes anything: it is a label: what it is worth is what the hold of that sum in a sandbox is worth. -/
noncomputable def Try.pinned : Pinned := { name := "ytadckogplkabcaa", sum := "b807e08cf9ecdcea35195c0687e38982ba152d7d2c9cd19052f7a51f2751ea07", checked := Try.checked }
namespace Rows
def none {H : Type} : Left H := { results := [], args := [] }

/-- 'laws.FnExactAreHouses': WHATEVER THE INPUT: true; the input reads as it did. -/
def fnExactAreHousesSpec : ChangeSpec := { name := "fnExactAreHouses", fn := fun _ => fun
  | [d] => { results := [.lit (.bool true)], args := [d] }
  | _ => none }
def fnExactAreHousesRow : OpenClaim := { program := "ytadckogplkabcaa", sum := "b807e08cf9ecdcea35195c0687e38982ba152d7d2c9cd19052f7a51f2751ea07", func := "loop.example/g01325/laws.FnExactAreHouses", spec := "fnExactAreHouses", unfollowed := true, recurses := true, apart := false }
def FnExactAreHousesSaid : Prop := fnExactAreHousesRow.holds Try.pinned (OpenSpec.ofChange fnExactAreHousesSpec)

/-- ITS FALSE NEIGHBOUR: 'it returns false'. Refute it at one input. -/
def fnExactAreHousesWrong : ChangeSpec := { name := "fnExactAreHouses", fn := fun _ => fun
  | [d] => { results := [.lit (.bool false)], args := [d] }
  | _ => none }
def FnExactAreHousesWrongFalsely : Prop := fnExactAreHousesRow.holds Try.pinned (OpenSpec.ofChange fnExactAreHousesWrong)

/-- 'laws.FnExactCountHouseBreaks': WHATEVER THE INPUT: true; the input reads as it did. -/
def fnExactCountHouseBreaksSpec : ChangeSpec := { name := "fnExactCountHouseBreaks", fn := fun _ => fun
  | [d] => { results := [.lit (.bool true)], args := [d] }
  | _ => none }
def fnExactCountHouseBreaksRow : OpenClaim := { program := "ytadckogplkabcaa", sum := "b807e08cf9ecdcea35195c0687e38982ba152d7d2c9cd19052f7a51f2751ea07", func := "loop.example/g01325/laws.FnExactCountHouseBreaks", spec := "fnExactCountHouseBreaks", unfollowed := true, recurses := true, apart := false }
def FnExactCountHouseBreaksSaid : Prop := fnExactCountHouseBreaksRow.holds Try.pinned (OpenSpec.ofChange fnExactCountHouseBreaksSpec)

/-- ITS FALSE NEIGHBOUR: 'it returns false'. Refute it at one input. -/
def fnExactCountHouseBreaksWrong : ChangeSpec := { name := "fnExactCountHouseBreaks", fn := fun _ => fun
  | [d] => { results := [.lit (.bool false)], args := [d] }
  | _ => none }
def FnExactCountHouseBreaksWrongFalsely : Prop := fnExactCountHouseBreaksRow.holds Try.pinned (OpenSpec.ofChange fnExactCountHouseBreaksWrong)

/-- 'laws.FnExactEggsNeeded': WHATEVER THE INPUT: true; the input reads as it did. -/
def fnExactEggsNeededSpec : ChangeSpec := { name := "fnExactEggsNeeded", fn := fun _ => fun
  | [d] => { results := [.lit (.bool true)], args := [d] }
  | _ => none }
def fnExactEggsNeededRow : OpenClaim := { program := "ytadckogplkabcaa", sum := "b807e08cf9ecdcea35195c0687e38982ba152d7d2c9cd19052f7a51f2751ea07", func := "loop.example/g01325/laws.FnExactEggsNeeded", spec := "fnExactEggsNeeded", unfollowed := true, recurses := true, apart := false }
def FnExactEggsNeededSaid : Prop := fnExactEggsNeededRow.holds Try.pinned (OpenSpec.ofChange fnExactEggsNeededSpec)

/-- ITS FALSE NEIGHBOUR: 'it returns false'. Refute it at one input. -/
def fnExactEggsNeededWrong : ChangeSpec := { name := "fnExactEggsNeeded", fn := fun _ => fun
  | [d] => { results := [.lit (.bool false)], args := [d] }
  | _ => none }
def FnExactEggsNeededWrongFalsely : Prop := fnExactEggsNeededRow.holds Try.pinned (OpenSpec.ofChange fnExactEggsNeededWrong)

/-- 'laws.FnExactLeastClimbs': WHATEVER THE INPUT: true; the input reads as it did. -/
def fnExactLeastClimbsSpec : ChangeSpec := { name := "fnExactLeastClimbs", fn := fun _ => fun
  | [d1, d2] => { results := [.lit (.bool true)], args := [d1, d2] }
  | _ => none }
def fnExactLeastClimbsRow : OpenClaim := { program := "ytadckogplkabcaa", sum := "b807e08cf9ecdcea35195c0687e38982ba152d7d2c9cd19052f7a51f2751ea07", func := "loop.example/g01325/laws.FnExactLeastClimbs", spec := "fnExactLeastClimbs", apart := false }
def FnExactLeastClimbsSaid : Prop := fnExactLeastClimbsRow.holds Try.pinned (OpenSpec.ofChange fnExactLeastClimbsSpec)

/-- ITS FALSE NEIGHBOUR: 'it returns false'. Refute it at one input. -/
def fnExactLeastClimbsWrong : ChangeSpec := { name := "fnExactLeastClimbs", fn := fun _ => fun
  | [d1, d2] => { results := [.lit (.bool false)], args := [d1, d2] }
  | _ => none }
def FnExactLeastClimbsWrongFalsely : Prop := fnExactLeastClimbsRow.holds Try.pinned (OpenSpec.ofChange fnExactLeastClimbsWrong)

/-- 'laws.FnExactLeastByBits': WHATEVER THE INPUT: true; the input reads as it did. -/
def fnExactLeastByBitsSpec : ChangeSpec := { name := "fnExactLeastByBits", fn := fun _ => fun
  | [d] => { results := [.lit (.bool true)], args := [d] }
  | _ => none }
def fnExactLeastByBitsRow : OpenClaim := { program := "ytadckogplkabcaa", sum := "b807e08cf9ecdcea35195c0687e38982ba152d7d2c9cd19052f7a51f2751ea07", func := "loop.example/g01325/laws.FnExactLeastByBits", spec := "fnExactLeastByBits", unfollowed := true, recurses := true, apart := false }
def FnExactLeastByBitsSaid : Prop := fnExactLeastByBitsRow.holds Try.pinned (OpenSpec.ofChange fnExactLeastByBitsSpec)

/-- ITS FALSE NEIGHBOUR: 'it returns false'. Refute it at one input. -/
def fnExactLeastByBitsWrong : ChangeSpec := { name := "fnExactLeastByBits", fn := fun _ => fun
  | [d] => { results := [.lit (.bool false)], args := [d] }
  | _ => none }
def FnExactLeastByBitsWrongFalsely : Prop := fnExactLeastByBitsRow.holds Try.pinned (OpenSpec.ofChange fnExactLeastByBitsWrong)

/-- 'laws.FnExactLeastCost': WHATEVER THE INPUT: true; the input reads as it did. -/
def fnExactLeastCostSpec : ChangeSpec := { name := "fnExactLeastCost", fn := fun _ => fun
  | [d1, d2, d3] => { results := [.lit (.bool true)], args := [d1, d2, d3] }
  | _ => none }
def fnExactLeastCostRow : OpenClaim := { program := "ytadckogplkabcaa", sum := "b807e08cf9ecdcea35195c0687e38982ba152d7d2c9cd19052f7a51f2751ea07", func := "loop.example/g01325/laws.FnExactLeastCost", spec := "fnExactLeastCost", apart := false }
def FnExactLeastCostSaid : Prop := fnExactLeastCostRow.holds Try.pinned (OpenSpec.ofChange fnExactLeastCostSpec)

/-- ITS FALSE NEIGHBOUR: 'it returns false'. Refute it at one input. -/
def fnExactLeastCostWrong : ChangeSpec := { name := "fnExactLeastCost", fn := fun _ => fun
  | [d1, d2, d3] => { results := [.lit (.bool false)], args := [d1, d2, d3] }
  | _ => none }
def FnExactLeastCostWrongFalsely : Prop := fnExactLeastCostRow.holds Try.pinned (OpenSpec.ofChange fnExactLeastCostWrong)

/- THE SECOND FORM. 'bulk': how many values and letters a reading holds, each counted each time it is reached (what is shared counts as often as it is met; a slice's spare places count too). A statement '..UptoSaid' is the law's where the arguments, and the package variables that the reading takes, are together of bulk at most 1048576: NARROWER than '..Said'. Prove '..Said' where nothing that the law and all that it calls make is longer than what came in: it says more and counts as full. Else prove '..UptoSaid'. A law counts once. -/
mutual
def uptoBulk {H : Type} : DataW H → Nat
  | .lit (.string bytes) => bytes.length + 1
  | .lit _ => 1
  | .nil => 1
  | .ptr d => uptoBulk d + 1
  | .slice elems spare => uptoBulkAll elems + uptoBulkAll spare + 1
  | .agg parts => uptoBulkAll parts + 1
  | .iface _ d => uptoBulk d + 1
  | .map entries => uptoBulkEntries entries + 1
  | .held _ => 1
def uptoBulkAll {H : Type} : List (DataW H) → Nat
  | [] => 0
  | d :: r => uptoBulk d + uptoBulkAll r
def uptoBulkEntries {H : Type} : List (Lit × DataW H) → Nat
  | [] => 0
  | x :: r => uptoBulkEntry x + uptoBulkEntries r
def uptoBulkEntry {H : Type} : Lit × DataW H → Nat
  | (.string bytes, d) => bytes.length + uptoBulk d + 1
  | (_, d) => uptoBulk d + 1
 end
def uptoSmall : (H : Type) → List (DataW H) → Bool := fun _ ds => decide (uptoBulkAll ds ≤ 1048576)
def OpenSpec.upto (s : _root_.Go.ChangeSpec) : _root_.Go.OpenSpec := { _root_.Go.OpenSpec.ofChange s with cond := some uptoSmall }

/-- 'laws.FnExactAreHouses', WHERE WHAT IT READS IS OF BULK AT MOST 1048576: true; the input reads as it did. -/
def fnExactAreHousesUptoRow : OpenClaim := { program := "ytadckogplkabcaa", sum := "b807e08cf9ecdcea35195c0687e38982ba152d7d2c9cd19052f7a51f2751ea07", func := "loop.example/g01325/laws.FnExactAreHouses", spec := "fnExactAreHouses", unfollowed := true, recurses := true, apart := false, narrowed := true }
def FnExactAreHousesUptoSaid : Prop := fnExactAreHousesUptoRow.holds Try.pinned (OpenSpec.upto fnExactAreHousesSpec)

/-- 'laws.FnExactCountHouseBreaks', WHERE WHAT IT READS IS OF BULK AT MOST 1048576: true; the input reads as it did. -/
def fnExactCountHouseBreaksUptoRow : OpenClaim := { program := "ytadckogplkabcaa", sum := "b807e08cf9ecdcea35195c0687e38982ba152d7d2c9cd19052f7a51f2751ea07", func := "loop.example/g01325/laws.FnExactCountHouseBreaks", spec := "fnExactCountHouseBreaks", unfollowed := true, recurses := true, apart := false, narrowed := true }
def FnExactCountHouseBreaksUptoSaid : Prop := fnExactCountHouseBreaksUptoRow.holds Try.pinned (OpenSpec.upto fnExactCountHouseBreaksSpec)

/-- 'laws.FnExactEggsNeeded', WHERE WHAT IT READS IS OF BULK AT MOST 1048576: true; the input reads as it did. -/
def fnExactEggsNeededUptoRow : OpenClaim := { program := "ytadckogplkabcaa", sum := "b807e08cf9ecdcea35195c0687e38982ba152d7d2c9cd19052f7a51f2751ea07", func := "loop.example/g01325/laws.FnExactEggsNeeded", spec := "fnExactEggsNeeded", unfollowed := true, recurses := true, apart := false, narrowed := true }
def FnExactEggsNeededUptoSaid : Prop := fnExactEggsNeededUptoRow.holds Try.pinned (OpenSpec.upto fnExactEggsNeededSpec)

/-- 'laws.FnExactLeastClimbs', WHERE WHAT IT READS IS OF BULK AT MOST 1048576: true; the input reads as it did. -/
def fnExactLeastClimbsUptoRow : OpenClaim := { program := "ytadckogplkabcaa", sum := "b807e08cf9ecdcea35195c0687e38982ba152d7d2c9cd19052f7a51f2751ea07", func := "loop.example/g01325/laws.FnExactLeastClimbs", spec := "fnExactLeastClimbs", apart := false, narrowed := true }
def FnExactLeastClimbsUptoSaid : Prop := fnExactLeastClimbsUptoRow.holds Try.pinned (OpenSpec.upto fnExactLeastClimbsSpec)

/-- 'laws.FnExactLeastByBits', WHERE WHAT IT READS IS OF BULK AT MOST 1048576: true; the input reads as it did. -/
def fnExactLeastByBitsUptoRow : OpenClaim := { program := "ytadckogplkabcaa", sum := "b807e08cf9ecdcea35195c0687e38982ba152d7d2c9cd19052f7a51f2751ea07", func := "loop.example/g01325/laws.FnExactLeastByBits", spec := "fnExactLeastByBits", unfollowed := true, recurses := true, apart := false, narrowed := true }
def FnExactLeastByBitsUptoSaid : Prop := fnExactLeastByBitsUptoRow.holds Try.pinned (OpenSpec.upto fnExactLeastByBitsSpec)

/-- 'laws.FnExactLeastCost', WHERE WHAT IT READS IS OF BULK AT MOST 1048576: true; the input reads as it did. -/
def fnExactLeastCostUptoRow : OpenClaim := { program := "ytadckogplkabcaa", sum := "b807e08cf9ecdcea35195c0687e38982ba152d7d2c9cd19052f7a51f2751ea07", func := "loop.example/g01325/laws.FnExactLeastCost", spec := "fnExactLeastCost", apart := false, narrowed := true }
def FnExactLeastCostUptoSaid : Prop := fnExactLeastCostUptoRow.holds Try.pinned (OpenSpec.upto fnExactLeastCostSpec)

end Rows
end Go.Proofs.Ytadckogplkabcaa
