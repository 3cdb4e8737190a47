/-
  No cell of these rows narrows 'for every input' (looked for: loops, veiled, ifaces, maps, wideKeys, modest, calm, conditions, laid).
  DERIVED. THE GIVEN ROWS OF THIS SEAT. 6 by the template 'for every input the law returns true; each argument reads behind the call as it read before'; 0 by the template 'total and deterministic' (their statements: YtkbmefmnfoalhaaTotals.lean).
  GIVEN WITH THE SEED: the statements are not yours to turn. If you find one false, say at which input.
  Laid BY PROGRAM, IN A SANDBOX (cutbox-rows.mjs): the forced cells as the released guide's own fill.sh prints them over the translation 9194331bdeeb6855… (all of the seat's roots in one cut). By AI agents, Wed Nov 11 2026. No macro, syntax, notation, axiom, sorry.
-/
import Derived.Test.YtkbmefmnfoalhaaChecked
import GoSem.Claim
import GoSem.ClaimJoined
import GoSem.ClaimMapViews
import Derived.JoinedTies
import Derived.KernelRfl
namespace Go.Proofs.Ytkbmefmnfoalhaa
/- THE CELL 'sum', in the pinned program and in every row, IS THE sha256 OF THE DUMP (.gsa) THAT YtkbmefmnfoalhaaProg.lean LOADS. Nothing in Lean hashes anything: it is a label: what it is worth is what the hold of that sum in a sandbox is worth. -/
noncomputable def Try.pinned : Pinned := { name := "ytkbmefmnfoalhaa", sum := "9194331bdeeb6855410785489423a87d1ec65e1e8da4946ae24a47a15d69a92d", checked := Try.checked }
namespace Rows
def none {H : Type} : Left H := { results := [], args := [] }

/-- 'laws.FnExactLeastClimbs': WHATEVER THE INPUT: true; the input reads as it did. -/
def fnExactLeastClimbsSpec : ChangeSpec := { name := "fnExactLeastClimbs", fn := fun _ => fun
  | [d1, d2] => { results := [.lit (.bool true)], args := [d1, d2] }
  | _ => none }
def fnExactLeastClimbsRow : OpenClaim := { program := "ytkbmefmnfoalhaa", sum := "9194331bdeeb6855410785489423a87d1ec65e1e8da4946ae24a47a15d69a92d", func := "loop.example/g01325/laws.FnExactLeastClimbs", spec := "fnExactLeastClimbs", apart := false }
def FnExactLeastClimbsSaid : Prop := fnExactLeastClimbsRow.holds Try.pinned (OpenSpec.ofChange fnExactLeastClimbsSpec)

/-- ITS FALSE NEIGHBOUR: 'it returns false'. Refute it at one input. -/
def fnExactLeastClimbsWrong : ChangeSpec := { name := "fnExactLeastClimbs", fn := fun _ => fun
  | [d1, d2] => { results := [.lit (.bool false)], args := [d1, d2] }
  | _ => none }
def FnExactLeastClimbsWrongFalsely : Prop := fnExactLeastClimbsRow.holds Try.pinned (OpenSpec.ofChange fnExactLeastClimbsWrong)

/-- 'laws.FnExactLeastCost': WHATEVER THE INPUT: true; the input reads as it did. -/
def fnExactLeastCostSpec : ChangeSpec := { name := "fnExactLeastCost", fn := fun _ => fun
  | [d1, d2, d3] => { results := [.lit (.bool true)], args := [d1, d2, d3] }
  | _ => none }
def fnExactLeastCostRow : OpenClaim := { program := "ytkbmefmnfoalhaa", sum := "9194331bdeeb6855410785489423a87d1ec65e1e8da4946ae24a47a15d69a92d", func := "loop.example/g01325/laws.FnExactLeastCost", spec := "fnExactLeastCost", apart := false }
def FnExactLeastCostSaid : Prop := fnExactLeastCostRow.holds Try.pinned (OpenSpec.ofChange fnExactLeastCostSpec)

/-- ITS FALSE NEIGHBOUR: 'it returns false'. Refute it at one input. -/
def fnExactLeastCostWrong : ChangeSpec := { name := "fnExactLeastCost", fn := fun _ => fun
  | [d1, d2, d3] => { results := [.lit (.bool false)], args := [d1, d2, d3] }
  | _ => none }
def FnExactLeastCostWrongFalsely : Prop := fnExactLeastCostRow.holds Try.pinned (OpenSpec.ofChange fnExactLeastCostWrong)

/-- 'laws.FnExactWorthEggs': WHATEVER THE INPUT: true; the input reads as it did. -/
def fnExactWorthEggsSpec : ChangeSpec := { name := "fnExactWorthEggs", fn := fun _ => fun
  | [d1, d2] => { results := [.lit (.bool true)], args := [d1, d2] }
  | _ => none }
def fnExactWorthEggsRow : OpenClaim := { program := "ytkbmefmnfoalhaa", sum := "9194331bdeeb6855410785489423a87d1ec65e1e8da4946ae24a47a15d69a92d", func := "loop.example/g01325/laws.FnExactWorthEggs", spec := "fnExactWorthEggs", apart := false }
def FnExactWorthEggsSaid : Prop := fnExactWorthEggsRow.holds Try.pinned (OpenSpec.ofChange fnExactWorthEggsSpec)

/-- ITS FALSE NEIGHBOUR: 'it returns false'. Refute it at one input. -/
def fnExactWorthEggsWrong : ChangeSpec := { name := "fnExactWorthEggs", fn := fun _ => fun
  | [d1, d2] => { results := [.lit (.bool false)], args := [d1, d2] }
  | _ => none }
def FnExactWorthEggsWrongFalsely : Prop := fnExactWorthEggsRow.holds Try.pinned (OpenSpec.ofChange fnExactWorthEggsWrong)

/-- 'laws.FnExactReachForCost': WHATEVER THE INPUT: true; the input reads as it did. -/
def fnExactReachForCostSpec : ChangeSpec := { name := "fnExactReachForCost", fn := fun _ => fun
  | [d1, d2, d3] => { results := [.lit (.bool true)], args := [d1, d2, d3] }
  | _ => none }
def fnExactReachForCostRow : OpenClaim := { program := "ytkbmefmnfoalhaa", sum := "9194331bdeeb6855410785489423a87d1ec65e1e8da4946ae24a47a15d69a92d", func := "loop.example/g01325/laws.FnExactReachForCost", spec := "fnExactReachForCost", unfollowed := true, recurses := true, apart := false }
def FnExactReachForCostSaid : Prop := fnExactReachForCostRow.holds Try.pinned (OpenSpec.ofChange fnExactReachForCostSpec)

/-- ITS FALSE NEIGHBOUR: 'it returns false'. Refute it at one input. -/
def fnExactReachForCostWrong : ChangeSpec := { name := "fnExactReachForCost", fn := fun _ => fun
  | [d1, d2, d3] => { results := [.lit (.bool false)], args := [d1, d2, d3] }
  | _ => none }
def FnExactReachForCostWrongFalsely : Prop := fnExactReachForCostRow.holds Try.pinned (OpenSpec.ofChange fnExactReachForCostWrong)

/-- 'laws.FnExactCostTable': WHATEVER THE INPUT: true; the input reads as it did. -/
def fnExactCostTableSpec : ChangeSpec := { name := "fnExactCostTable", fn := fun _ => fun
  | [d1, d2, d3] => { results := [.lit (.bool true)], args := [d1, d2, d3] }
  | _ => none }
def fnExactCostTableRow : OpenClaim := { program := "ytkbmefmnfoalhaa", sum := "9194331bdeeb6855410785489423a87d1ec65e1e8da4946ae24a47a15d69a92d", func := "loop.example/g01325/laws.FnExactCostTable", spec := "fnExactCostTable", apart := false }
def FnExactCostTableSaid : Prop := fnExactCostTableRow.holds Try.pinned (OpenSpec.ofChange fnExactCostTableSpec)

/-- ITS FALSE NEIGHBOUR: 'it returns false'. Refute it at one input. -/
def fnExactCostTableWrong : ChangeSpec := { name := "fnExactCostTable", fn := fun _ => fun
  | [d1, d2, d3] => { results := [.lit (.bool false)], args := [d1, d2, d3] }
  | _ => none }
def FnExactCostTableWrongFalsely : Prop := fnExactCostTableRow.holds Try.pinned (OpenSpec.ofChange fnExactCostTableWrong)

/-- 'laws.FnExactCostFloors': WHATEVER THE INPUT: true; the input reads as it did. -/
def fnExactCostFloorsSpec : ChangeSpec := { name := "fnExactCostFloors", fn := fun _ => fun
  | [d1, d2, d3] => { results := [.lit (.bool true)], args := [d1, d2, d3] }
  | _ => none }
def fnExactCostFloorsRow : OpenClaim := { program := "ytkbmefmnfoalhaa", sum := "9194331bdeeb6855410785489423a87d1ec65e1e8da4946ae24a47a15d69a92d", func := "loop.example/g01325/laws.FnExactCostFloors", spec := "fnExactCostFloors", apart := false }
def FnExactCostFloorsSaid : Prop := fnExactCostFloorsRow.holds Try.pinned (OpenSpec.ofChange fnExactCostFloorsSpec)

/-- ITS FALSE NEIGHBOUR: 'it returns false'. Refute it at one input. -/
def fnExactCostFloorsWrong : ChangeSpec := { name := "fnExactCostFloors", fn := fun _ => fun
  | [d1, d2, d3] => { results := [.lit (.bool false)], args := [d1, d2, d3] }
  | _ => none }
def FnExactCostFloorsWrongFalsely : Prop := fnExactCostFloorsRow.holds Try.pinned (OpenSpec.ofChange fnExactCostFloorsWrong)

/- THE SECOND FORM. 'bulk': how many values and letters a reading holds, each counted each time it is reached (what is shared counts as often as it is met; a slice's spare places count too). A statement '..UptoSaid' is the law's where the arguments, and the package variables that the reading takes, are together of bulk at most 1048576: NARROWER than '..Said'. Prove '..Said' where nothing that the law and all that it calls make is longer than what came in: it says more and counts as full. Else prove '..UptoSaid'. A law counts once. -/
mutual
def uptoBulk {H : Type} : DataW H → Nat
  | .lit (.string bytes) => bytes.length + 1
  | .lit _ => 1
  | .nil => 1
  | .ptr d => uptoBulk d + 1
  | .slice elems spare => uptoBulkAll elems + uptoBulkAll spare + 1
  | .agg parts => uptoBulkAll parts + 1
  | .iface _ d => uptoBulk d + 1
  | .map entries => uptoBulkEntries entries + 1
  | .held _ => 1
def uptoBulkAll {H : Type} : List (DataW H) → Nat
  | [] => 0
  | d :: r => uptoBulk d + uptoBulkAll r
def uptoBulkEntries {H : Type} : List (Lit × DataW H) → Nat
  | [] => 0
  | x :: r => uptoBulkEntry x + uptoBulkEntries r
def uptoBulkEntry {H : Type} : Lit × DataW H → Nat
  | (.string bytes, d) => bytes.length + uptoBulk d + 1
  | (_, d) => uptoBulk d + 1
 end
def uptoSmall : (H : Type) → List (DataW H) → Bool := fun _ ds => decide (uptoBulkAll ds ≤ 1048576)
def OpenSpec.upto (s : _root_.Go.ChangeSpec) : _root_.Go.OpenSpec := { _root_.Go.OpenSpec.ofChange s with cond := some uptoSmall }

/-- 'laws.FnExactLeastClimbs', WHERE WHAT IT READS IS OF BULK AT MOST 1048576: true; the input reads as it did. -/
def fnExactLeastClimbsUptoRow : OpenClaim := { program := "ytkbmefmnfoalhaa", sum := "9194331bdeeb6855410785489423a87d1ec65e1e8da4946ae24a47a15d69a92d", func := "loop.example/g01325/laws.FnExactLeastClimbs", spec := "fnExactLeastClimbs", apart := false, narrowed := true }
def FnExactLeastClimbsUptoSaid : Prop := fnExactLeastClimbsUptoRow.holds Try.pinned (OpenSpec.upto fnExactLeastClimbsSpec)

/-- 'laws.FnExactLeastCost', WHERE WHAT IT READS IS OF BULK AT MOST 1048576: true; the input reads as it did. -/
def fnExactLeastCostUptoRow : OpenClaim := { program := "ytkbmefmnfoalhaa", sum := "9194331bdeeb6855410785489423a87d1ec65e1e8da4946ae24a47a15d69a92d", func := "loop.example/g01325/laws.FnExactLeastCost", spec := "fnExactLeastCost", apart := false, narrowed := true }
def FnExactLeastCostUptoSaid : Prop := fnExactLeastCostUptoRow.holds Try.pinned (OpenSpec.upto fnExactLeastCostSpec)

/-- 'laws.FnExactWorthEggs', WHERE WHAT IT READS IS OF BULK AT MOST 1048576: true; the input reads as it did. -/
def fnExactWorthEggsUptoRow : OpenClaim := { program := "ytkbmefmnfoalhaa", sum := "9194331bdeeb6855410785489423a87d1ec65e1e8da4946ae24a47a15d69a92d", func := "loop.example/g01325/laws.FnExactWorthEggs", spec := "fnExactWorthEggs", apart := false, narrowed := true }
def FnExactWorthEggsUptoSaid : Prop := fnExactWorthEggsUptoRow.holds Try.pinned (OpenSpec.upto fnExactWorthEggsSpec)

/-- 'laws.FnExactReachForCost', WHERE WHAT IT READS IS OF BULK AT MOST 1048576: true; the input reads as it did. -/
def fnExactReachForCostUptoRow : OpenClaim := { program := "ytkbmefmnfoalhaa", sum := "9194331bdeeb6855410785489423a87d1ec65e1e8da4946ae24a47a15d69a92d", func := "loop.example/g01325/laws.FnExactReachForCost", spec := "fnExactReachForCost", unfollowed := true, recurses := true, apart := false, narrowed := true }
def FnExactReachForCostUptoSaid : Prop := fnExactReachForCostUptoRow.holds Try.pinned (OpenSpec.upto fnExactReachForCostSpec)

/-- 'laws.FnExactCostTable', WHERE WHAT IT READS IS OF BULK AT MOST 1048576: true; the input reads as it did. -/
def fnExactCostTableUptoRow : OpenClaim := { program := "ytkbmefmnfoalhaa", sum := "9194331bdeeb6855410785489423a87d1ec65e1e8da4946ae24a47a15d69a92d", func := "loop.example/g01325/laws.FnExactCostTable", spec := "fnExactCostTable", apart := false, narrowed := true }
def FnExactCostTableUptoSaid : Prop := fnExactCostTableUptoRow.holds Try.pinned (OpenSpec.upto fnExactCostTableSpec)

/-- 'laws.FnExactCostFloors', WHERE WHAT IT READS IS OF BULK AT MOST 1048576: true; the input reads as it did. -/
def fnExactCostFloorsUptoRow : OpenClaim := { program := "ytkbmefmnfoalhaa", sum := "9194331bdeeb6855410785489423a87d1ec65e1e8da4946ae24a47a15d69a92d", func := "loop.example/g01325/laws.FnExactCostFloors", spec := "fnExactCostFloors", apart := false, narrowed := true }
def FnExactCostFloorsUptoSaid : Prop := fnExactCostFloorsUptoRow.holds Try.pinned (OpenSpec.upto fnExactCostFloorsSpec)

end Rows
end Go.Proofs.Ytkbmefmnfoalhaa
