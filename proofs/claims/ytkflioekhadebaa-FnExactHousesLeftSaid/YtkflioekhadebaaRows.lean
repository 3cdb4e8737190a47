/-
  No cell of these rows narrows 'for every input' (looked for: loops, veiled, ifaces, maps, wideKeys, modest, calm, conditions, laid).
  DERIVED. THE GIVEN ROWS OF THIS SEAT. 5 by the template 'for every input the law returns true; each argument reads behind the call as it read before'; 0 by the template 'total and deterministic' (their statements: YtkflioekhadebaaTotals.lean).
  GIVEN WITH THE SEED: the statements are not yours to turn. If you find one false, say at which input.
  Laid BY PROGRAM, IN A SANDBOX (cutbox-rows.mjs): the forced cells as the released guide's own fill.sh prints them over the translation e7dd458d56463e26… (all of the seat's roots in one cut). By AI agents, Wed Nov 11 2026. No macro, syntax, notation, axiom, sorry.
-/
import Derived.Test.YtkflioekhadebaaChecked
import GoSem.Claim
import GoSem.ClaimJoined
import GoSem.ClaimMapViews
import Derived.JoinedTies
import Derived.KernelRfl
namespace Go.Proofs.Ytkflioekhadebaa
/- THE CELL 'sum', in the pinned program and in every row, IS THE sha256 OF THE DUMP (.gsa) THAT YtkflioekhadebaaProg.lean LOADS. Nothing in Lean hashes anything: it is a label: what it is worth is what the hold of that sum in a sandbox is worth. -/
noncomputable def Try.pinned : Pinned := { name := "ytkflioekhadebaa", sum := "e7dd458d56463e26f5de2e36d8de593d4f27b78495a08e447123653683782793", checked := Try.checked }
namespace Rows
def none {H : Type} : Left H := { results := [], args := [] }

/-- 'laws.FnExactAreHouses': WHATEVER THE INPUT: true; the input reads as it did. -/
def fnExactAreHousesSpec : ChangeSpec := { name := "fnExactAreHouses", fn := fun _ => fun
  | [d] => { results := [.lit (.bool true)], args := [d] }
  | _ => none }
def fnExactAreHousesRow : OpenClaim := { program := "ytkflioekhadebaa", sum := "e7dd458d56463e26f5de2e36d8de593d4f27b78495a08e447123653683782793", func := "loop.example/g01325/laws.FnExactAreHouses", spec := "fnExactAreHouses", unfollowed := true, recurses := true, apart := false }
def FnExactAreHousesSaid : Prop := fnExactAreHousesRow.holds Try.pinned (OpenSpec.ofChange fnExactAreHousesSpec)

/-- ITS FALSE NEIGHBOUR: 'it returns false'. Refute it at one input. -/
def fnExactAreHousesWrong : ChangeSpec := { name := "fnExactAreHouses", fn := fun _ => fun
  | [d] => { results := [.lit (.bool false)], args := [d] }
  | _ => none }
def FnExactAreHousesWrongFalsely : Prop := fnExactAreHousesRow.holds Try.pinned (OpenSpec.ofChange fnExactAreHousesWrong)

/-- 'laws.FnExactCountHouseBreaks': WHATEVER THE INPUT: true; the input reads as it did. -/
def fnExactCountHouseBreaksSpec : ChangeSpec := { name := "fnExactCountHouseBreaks", fn := fun _ => fun
  | [d] => { results := [.lit (.bool true)], args := [d] }
  | _ => none }
def fnExactCountHouseBreaksRow : OpenClaim := { program := "ytkflioekhadebaa", sum := "e7dd458d56463e26f5de2e36d8de593d4f27b78495a08e447123653683782793", func := "loop.example/g01325/laws.FnExactCountHouseBreaks", spec := "fnExactCountHouseBreaks", unfollowed := true, recurses := true, apart := false }
def FnExactCountHouseBreaksSaid : Prop := fnExactCountHouseBreaksRow.holds Try.pinned (OpenSpec.ofChange fnExactCountHouseBreaksSpec)

/-- ITS FALSE NEIGHBOUR: 'it returns false'. Refute it at one input. -/
def fnExactCountHouseBreaksWrong : ChangeSpec := { name := "fnExactCountHouseBreaks", fn := fun _ => fun
  | [d] => { results := [.lit (.bool false)], args := [d] }
  | _ => none }
def FnExactCountHouseBreaksWrongFalsely : Prop := fnExactCountHouseBreaksRow.holds Try.pinned (OpenSpec.ofChange fnExactCountHouseBreaksWrong)

/-- 'laws.FnExactEggsNeeded': WHATEVER THE INPUT: true; the input reads as it did. -/
def fnExactEggsNeededSpec : ChangeSpec := { name := "fnExactEggsNeeded", fn := fun _ => fun
  | [d] => { results := [.lit (.bool true)], args := [d] }
  | _ => none }
def fnExactEggsNeededRow : OpenClaim := { program := "ytkflioekhadebaa", sum := "e7dd458d56463e26f5de2e36d8de593d4f27b78495a08e447123653683782793", func := "loop.example/g01325/laws.FnExactEggsNeeded", spec := "fnExactEggsNeeded", unfollowed := true, recurses := true, apart := false }
def FnExactEggsNeededSaid : Prop := fnExactEggsNeededRow.holds Try.pinned (OpenSpec.ofChange fnExactEggsNeededSpec)

/-- ITS FALSE NEIGHBOUR: 'it returns false'. Refute it at one input. -/
def fnExactEggsNeededWrong : ChangeSpec := { name := "fnExactEggsNeeded", fn := fun _ => fun
  | [d] => { results := [.lit (.bool false)], args := [d] }
  | _ => none }
def FnExactEggsNeededWrongFalsely : Prop := fnExactEggsNeededRow.holds Try.pinned (OpenSpec.ofChange fnExactEggsNeededWrong)

/-- 'laws.FnExactLeastByBits': WHATEVER THE INPUT: true; the input reads as it did. -/
def fnExactLeastByBitsSpec : ChangeSpec := { name := "fnExactLeastByBits", fn := fun _ => fun
  | [d] => { results := [.lit (.bool true)], args := [d] }
  | _ => none }
def fnExactLeastByBitsRow : OpenClaim := { program := "ytkflioekhadebaa", sum := "e7dd458d56463e26f5de2e36d8de593d4f27b78495a08e447123653683782793", func := "loop.example/g01325/laws.FnExactLeastByBits", spec := "fnExactLeastByBits", unfollowed := true, recurses := true, apart := false }
def FnExactLeastByBitsSaid : Prop := fnExactLeastByBitsRow.holds Try.pinned (OpenSpec.ofChange fnExactLeastByBitsSpec)

/-- ITS FALSE NEIGHBOUR: 'it returns false'. Refute it at one input. -/
def fnExactLeastByBitsWrong : ChangeSpec := { name := "fnExactLeastByBits", fn := fun _ => fun
  | [d] => { results := [.lit (.bool false)], args := [d] }
  | _ => none }
def FnExactLeastByBitsWrongFalsely : Prop := fnExactLeastByBitsRow.holds Try.pinned (OpenSpec.ofChange fnExactLeastByBitsWrong)

/-- 'laws.FnExactHousesLeft': WHATEVER THE INPUT: true; the input reads as it did. -/
def fnExactHousesLeftSpec : ChangeSpec := { name := "fnExactHousesLeft", fn := fun _ => fun
  | [d1, d2] => { results := [.lit (.bool true)], args := [d1, d2] }
  | _ => none }
def fnExactHousesLeftRow : OpenClaim := { program := "ytkflioekhadebaa", sum := "e7dd458d56463e26f5de2e36d8de593d4f27b78495a08e447123653683782793", func := "loop.example/g01325/laws.FnExactHousesLeft", spec := "fnExactHousesLeft", unfollowed := true, recurses := true, apart := false }
def FnExactHousesLeftSaid : Prop := fnExactHousesLeftRow.holds Try.pinned (OpenSpec.ofChange fnExactHousesLeftSpec)

/-- ITS FALSE NEIGHBOUR: 'it returns false'. Refute it at one input. -/
def fnExactHousesLeftWrong : ChangeSpec := { name := "fnExactHousesLeft", fn := fun _ => fun
  | [d1, d2] => { results := [.lit (.bool false)], args := [d1, d2] }
  | _ => none }
def FnExactHousesLeftWrongFalsely : Prop := fnExactHousesLeftRow.holds Try.pinned (OpenSpec.ofChange fnExactHousesLeftWrong)

/- THE SECOND FORM. 'bulk': how many values and letters a reading holds, each counted each time it is reached (what is shared counts as often as it is met; a slice's spare places count too). A statement '..UptoSaid' is the law's where the arguments, and the package variables that the reading takes, are together of bulk at most 1048576: NARROWER than '..Said'. Prove '..Said' where nothing that the law and all that it calls make is longer than what came in: it says more and counts as full. Else prove '..UptoSaid'. A law counts once. -/
mutual
def uptoBulk {H : Type} : DataW H → Nat
  | .lit (.string bytes) => bytes.length + 1
  | .lit _ => 1
  | .nil => 1
  | .ptr d => uptoBulk d + 1
  | .slice elems spare => uptoBulkAll elems + uptoBulkAll spare + 1
  | .agg parts => uptoBulkAll parts + 1
  | .iface _ d => uptoBulk d + 1
  | .map entries => uptoBulkEntries entries + 1
  | .held _ => 1
def uptoBulkAll {H : Type} : List (DataW H) → Nat
  | [] => 0
  | d :: r => uptoBulk d + uptoBulkAll r
def uptoBulkEntries {H : Type} : List (Lit × DataW H) → Nat
  | [] => 0
  | x :: r => uptoBulkEntry x + uptoBulkEntries r
def uptoBulkEntry {H : Type} : Lit × DataW H → Nat
  | (.string bytes, d) => bytes.length + uptoBulk d + 1
  | (_, d) => uptoBulk d + 1
 end
def uptoSmall : (H : Type) → List (DataW H) → Bool := fun _ ds => decide (uptoBulkAll ds ≤ 1048576)
def OpenSpec.upto (s : _root_.Go.ChangeSpec) : _root_.Go.OpenSpec := { _root_.Go.OpenSpec.ofChange s with cond := some uptoSmall }

/-- 'laws.FnExactAreHouses', WHERE WHAT IT READS IS OF BULK AT MOST 1048576: true; the input reads as it did. -/
def fnExactAreHousesUptoRow : OpenClaim := { program := "ytkflioekhadebaa", sum := "e7dd458d56463e26f5de2e36d8de593d4f27b78495a08e447123653683782793", func := "loop.example/g01325/laws.FnExactAreHouses", spec := "fnExactAreHouses", unfollowed := true, recurses := true, apart := false, narrowed := true }
def FnExactAreHousesUptoSaid : Prop := fnExactAreHousesUptoRow.holds Try.pinned (OpenSpec.upto fnExactAreHousesSpec)

/-- 'laws.FnExactCountHouseBreaks', WHERE WHAT IT READS IS OF BULK AT MOST 1048576: true; the input reads as it did. -/
def fnExactCountHouseBreaksUptoRow : OpenClaim := { program := "ytkflioekhadebaa", sum := "e7dd458d56463e26f5de2e36d8de593d4f27b78495a08e447123653683782793", func := "loop.example/g01325/laws.FnExactCountHouseBreaks", spec := "fnExactCountHouseBreaks", unfollowed := true, recurses := true, apart := false, narrowed := true }
def FnExactCountHouseBreaksUptoSaid : Prop := fnExactCountHouseBreaksUptoRow.holds Try.pinned (OpenSpec.upto fnExactCountHouseBreaksSpec)

/-- 'laws.FnExactEggsNeeded', WHERE WHAT IT READS IS OF BULK AT MOST 1048576: true; the input reads as it did. -/
def fnExactEggsNeededUptoRow : OpenClaim := { program := "ytkflioekhadebaa", sum := "e7dd458d56463e26f5de2e36d8de593d4f27b78495a08e447123653683782793", func := "loop.example/g01325/laws.FnExactEggsNeeded", spec := "fnExactEggsNeeded", unfollowed := true, recurses := true, apart := false, narrowed := true }
def FnExactEggsNeededUptoSaid : Prop := fnExactEggsNeededUptoRow.holds Try.pinned (OpenSpec.upto fnExactEggsNeededSpec)

/-- 'laws.FnExactLeastByBits', WHERE WHAT IT READS IS OF BULK AT MOST 1048576: true; the input reads as it did. -/
def fnExactLeastByBitsUptoRow : OpenClaim := { program := "ytkflioekhadebaa", sum := "e7dd458d56463e26f5de2e36d8de593d4f27b78495a08e447123653683782793", func := "loop.example/g01325/laws.FnExactLeastByBits", spec := "fnExactLeastByBits", unfollowed := true, recurses := true, apart := false, narrowed := true }
def FnExactLeastByBitsUptoSaid : Prop := fnExactLeastByBitsUptoRow.holds Try.pinned (OpenSpec.upto fnExactLeastByBitsSpec)

/-- 'laws.FnExactHousesLeft', WHERE WHAT IT READS IS OF BULK AT MOST 1048576: true; the input reads as it did. -/
def fnExactHousesLeftUptoRow : OpenClaim := { program := "ytkflioekhadebaa", sum := "e7dd458d56463e26f5de2e36d8de593d4f27b78495a08e447123653683782793", func := "loop.example/g01325/laws.FnExactHousesLeft", spec := "fnExactHousesLeft", unfollowed := true, recurses := true, apart := false, narrowed := true }
def FnExactHousesLeftUptoSaid : Prop := fnExactHousesLeftUptoRow.holds Try.pinned (OpenSpec.upto fnExactHousesLeftSpec)

end Rows
end Go.Proofs.Ytkflioekhadebaa
