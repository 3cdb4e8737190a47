/-
  No cell of these rows narrows 'for every input' (looked for: loops, veiled, ifaces, maps, wideKeys, modest, calm, conditions, laid).
  DERIVED. THE GIVEN ROWS OF THIS SEAT. 4 by the template 'for every input the law returns true; each argument reads behind the call as it read before'; 0 by the template 'total and deterministic' (their statements: YtbiibhfcclfoiaaTotals.lean).
  GIVEN WITH THE SEED: the statements are not yours to turn. If you find one false, say at which input.
  Laid BY PROGRAM, IN A SANDBOX (cutbox-rows.mjs): the forced cells as the released guide's own fill.sh prints them over the translation 0941c2544935e877… (all of the seat's roots in one cut). By AI agents, Wed Nov 11 2026. No macro, syntax, notation, axiom, sorry.
-/
import Derived.Test.YtbiibhfcclfoiaaChecked
import GoSem.Claim
import GoSem.ClaimJoined
import GoSem.ClaimMapViews
import Derived.JoinedTies
import Derived.KernelRfl
namespace Go.Proofs.Ytbiibhfcclfoiaa
/- THE CELL 'sum', in the pinned program and in every row, IS THE sha256 OF THE DUMP (.gsa) THAT YtbiibhfcclfoiaaProg.lean LOADS. Nothing in Lean hashes anything: it is a label: what it is worth is what the hold of that sum in a sandbox is worth. -/
noncomputable def Try.pinned : Pinned := { name := "ytbiibhfcclfoiaa", sum := "0941c2544935e877a1750d1dfb239bae8d6b73ae512c3d0d1ad1fde4cfe24ebd", checked := Try.checked }
namespace Rows
def none {H : Type} : Left H := { results := [], args := [] }

/-- 'laws.FnExactCountRounds': WHATEVER THE INPUT: true; the input reads as it did. -/
def fnExactCountRoundsSpec : ChangeSpec := { name := "fnExactCountRounds", fn := fun _ => fun
  | [d1, d2, d3, d4] => { results := [.lit (.bool true)], args := [d1, d2, d3, d4] }
  | _ => none }
def fnExactCountRoundsRow : OpenClaim := { program := "ytbiibhfcclfoiaa", sum := "0941c2544935e877a1750d1dfb239bae8d6b73ae512c3d0d1ad1fde4cfe24ebd", func := "loop.example/g01325/laws.FnExactCountRounds", spec := "fnExactCountRounds", apart := false }
def FnExactCountRoundsSaid : Prop := fnExactCountRoundsRow.holds Try.pinned (OpenSpec.ofChange fnExactCountRoundsSpec)

/-- ITS FALSE NEIGHBOUR: 'it returns false'. Refute it at one input. -/
def fnExactCountRoundsWrong : ChangeSpec := { name := "fnExactCountRounds", fn := fun _ => fun
  | [d1, d2, d3, d4] => { results := [.lit (.bool false)], args := [d1, d2, d3, d4] }
  | _ => none }
def FnExactCountRoundsWrongFalsely : Prop := fnExactCountRoundsRow.holds Try.pinned (OpenSpec.ofChange fnExactCountRoundsWrong)

/-- 'laws.FnExactBrokenInRounds': WHATEVER THE INPUT: true; the input reads as it did. -/
def fnExactBrokenInRoundsSpec : ChangeSpec := { name := "fnExactBrokenInRounds", fn := fun _ => fun
  | [d1, d2, d3, d4] => { results := [.lit (.bool true)], args := [d1, d2, d3, d4] }
  | _ => none }
def fnExactBrokenInRoundsRow : OpenClaim := { program := "ytbiibhfcclfoiaa", sum := "0941c2544935e877a1750d1dfb239bae8d6b73ae512c3d0d1ad1fde4cfe24ebd", func := "loop.example/g01325/laws.FnExactBrokenInRounds", spec := "fnExactBrokenInRounds", apart := false }
def FnExactBrokenInRoundsSaid : Prop := fnExactBrokenInRoundsRow.holds Try.pinned (OpenSpec.ofChange fnExactBrokenInRoundsSpec)

/-- ITS FALSE NEIGHBOUR: 'it returns false'. Refute it at one input. -/
def fnExactBrokenInRoundsWrong : ChangeSpec := { name := "fnExactBrokenInRounds", fn := fun _ => fun
  | [d1, d2, d3, d4] => { results := [.lit (.bool false)], args := [d1, d2, d3, d4] }
  | _ => none }
def FnExactBrokenInRoundsWrongFalsely : Prop := fnExactBrokenInRoundsRow.holds Try.pinned (OpenSpec.ofChange fnExactBrokenInRoundsWrong)

/-- 'laws.FnExactSlowestBreaks': WHATEVER THE INPUT: true; the input reads as it did. -/
def fnExactSlowestBreaksSpec : ChangeSpec := { name := "fnExactSlowestBreaks", fn := fun _ => fun
  | [d1, d2, d3] => { results := [.lit (.bool true)], args := [d1, d2, d3] }
  | _ => none }
def fnExactSlowestBreaksRow : OpenClaim := { program := "ytbiibhfcclfoiaa", sum := "0941c2544935e877a1750d1dfb239bae8d6b73ae512c3d0d1ad1fde4cfe24ebd", func := "loop.example/g01325/laws.FnExactSlowestBreaks", spec := "fnExactSlowestBreaks", unfollowed := true, recurses := true, apart := false }
def FnExactSlowestBreaksSaid : Prop := fnExactSlowestBreaksRow.holds Try.pinned (OpenSpec.ofChange fnExactSlowestBreaksSpec)

/-- ITS FALSE NEIGHBOUR: 'it returns false'. Refute it at one input. -/
def fnExactSlowestBreaksWrong : ChangeSpec := { name := "fnExactSlowestBreaks", fn := fun _ => fun
  | [d1, d2, d3] => { results := [.lit (.bool false)], args := [d1, d2, d3] }
  | _ => none }
def FnExactSlowestBreaksWrongFalsely : Prop := fnExactSlowestBreaksRow.holds Try.pinned (OpenSpec.ofChange fnExactSlowestBreaksWrong)

/-- 'laws.FnExactPlayRounds': WHATEVER THE INPUT: true; the input reads as it did. -/
def fnExactPlayRoundsSpec : ChangeSpec := { name := "fnExactPlayRounds", fn := fun _ => fun
  | [d1, d2, d3, d4] => { results := [.lit (.bool true)], args := [d1, d2, d3, d4] }
  | _ => none }
def fnExactPlayRoundsRow : OpenClaim := { program := "ytbiibhfcclfoiaa", sum := "0941c2544935e877a1750d1dfb239bae8d6b73ae512c3d0d1ad1fde4cfe24ebd", func := "loop.example/g01325/laws.FnExactPlayRounds", spec := "fnExactPlayRounds", apart := false }
def FnExactPlayRoundsSaid : Prop := fnExactPlayRoundsRow.holds Try.pinned (OpenSpec.ofChange fnExactPlayRoundsSpec)

/-- ITS FALSE NEIGHBOUR: 'it returns false'. Refute it at one input. -/
def fnExactPlayRoundsWrong : ChangeSpec := { name := "fnExactPlayRounds", fn := fun _ => fun
  | [d1, d2, d3, d4] => { results := [.lit (.bool false)], args := [d1, d2, d3, d4] }
  | _ => none }
def FnExactPlayRoundsWrongFalsely : Prop := fnExactPlayRoundsRow.holds Try.pinned (OpenSpec.ofChange fnExactPlayRoundsWrong)

/- THE SECOND FORM. 'bulk': how many values and letters a reading holds, each counted each time it is reached (what is shared counts as often as it is met; a slice's spare places count too). A statement '..UptoSaid' is the law's where the arguments, and the package variables that the reading takes, are together of bulk at most 1048576: NARROWER than '..Said'. Prove '..Said' where nothing that the law and all that it calls make is longer than what came in: it says more and counts as full. Else prove '..UptoSaid'. A law counts once. -/
mutual
def uptoBulk {H : Type} : DataW H → Nat
  | .lit (.string bytes) => bytes.length + 1
  | .lit _ => 1
  | .nil => 1
  | .ptr d => uptoBulk d + 1
  | .slice elems spare => uptoBulkAll elems + uptoBulkAll spare + 1
  | .agg parts => uptoBulkAll parts + 1
  | .iface _ d => uptoBulk d + 1
  | .map entries => uptoBulkEntries entries + 1
  | .held _ => 1
def uptoBulkAll {H : Type} : List (DataW H) → Nat
  | [] => 0
  | d :: r => uptoBulk d + uptoBulkAll r
def uptoBulkEntries {H : Type} : List (Lit × DataW H) → Nat
  | [] => 0
  | x :: r => uptoBulkEntry x + uptoBulkEntries r
def uptoBulkEntry {H : Type} : Lit × DataW H → Nat
  | (.string bytes, d) => bytes.length + uptoBulk d + 1
  | (_, d) => uptoBulk d + 1
 end
def uptoSmall : (H : Type) → List (DataW H) → Bool := fun _ ds => decide (uptoBulkAll ds ≤ 1048576)
def OpenSpec.upto (s : _root_.Go.ChangeSpec) : _root_.Go.OpenSpec := { _root_.Go.OpenSpec.ofChange s with cond := some uptoSmall }

/-- 'laws.FnExactCountRounds', WHERE WHAT IT READS IS OF BULK AT MOST 1048576: true; the input reads as it did. -/
def fnExactCountRoundsUptoRow : OpenClaim := { program := "ytbiibhfcclfoiaa", sum := "0941c2544935e877a1750d1dfb239bae8d6b73ae512c3d0d1ad1fde4cfe24ebd", func := "loop.example/g01325/laws.FnExactCountRounds", spec := "fnExactCountRounds", apart := false, narrowed := true }
def FnExactCountRoundsUptoSaid : Prop := fnExactCountRoundsUptoRow.holds Try.pinned (OpenSpec.upto fnExactCountRoundsSpec)

/-- 'laws.FnExactBrokenInRounds', WHERE WHAT IT READS IS OF BULK AT MOST 1048576: true; the input reads as it did. -/
def fnExactBrokenInRoundsUptoRow : OpenClaim := { program := "ytbiibhfcclfoiaa", sum := "0941c2544935e877a1750d1dfb239bae8d6b73ae512c3d0d1ad1fde4cfe24ebd", func := "loop.example/g01325/laws.FnExactBrokenInRounds", spec := "fnExactBrokenInRounds", apart := false, narrowed := true }
def FnExactBrokenInRoundsUptoSaid : Prop := fnExactBrokenInRoundsUptoRow.holds Try.pinned (OpenSpec.upto fnExactBrokenInRoundsSpec)

/-- 'laws.FnExactSlowestBreaks', WHERE WHAT IT READS IS OF BULK AT MOST 1048576: true; the input reads as it did. -/
def fnExactSlowestBreaksUptoRow : OpenClaim := { program := "ytbiibhfcclfoiaa", sum := "0941c2544935e877a1750d1dfb239bae8d6b73ae512c3d0d1ad1fde4cfe24ebd", func := "loop.example/g01325/laws.FnExactSlowestBreaks", spec := "fnExactSlowestBreaks", unfollowed := true, recurses := true, apart := false, narrowed := true }
def FnExactSlowestBreaksUptoSaid : Prop := fnExactSlowestBreaksUptoRow.holds Try.pinned (OpenSpec.upto fnExactSlowestBreaksSpec)

/-- 'laws.FnExactPlayRounds', WHERE WHAT IT READS IS OF BULK AT MOST 1048576: true; the input reads as it did. -/
def fnExactPlayRoundsUptoRow : OpenClaim := { program := "ytbiibhfcclfoiaa", sum := "0941c2544935e877a1750d1dfb239bae8d6b73ae512c3d0d1ad1fde4cfe24ebd", func := "loop.example/g01325/laws.FnExactPlayRounds", spec := "fnExactPlayRounds", apart := false, narrowed := true }
def FnExactPlayRoundsUptoSaid : Prop := fnExactPlayRoundsUptoRow.holds Try.pinned (OpenSpec.upto fnExactPlayRoundsSpec)

end Rows
end Go.Proofs.Ytbiibhfcclfoiaa
