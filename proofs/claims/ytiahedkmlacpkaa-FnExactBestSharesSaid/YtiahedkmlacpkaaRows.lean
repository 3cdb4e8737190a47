/-
  No cell of these rows narrows 'for every input' (looked for: loops, veiled, ifaces, maps, wideKeys, modest, calm, conditions, laid).
  DERIVED. THE GIVEN ROWS OF THIS SEAT. 8 by the template 'for every input the law returns true; each argument reads behind the call as it read before'; 0 by the template 'total and deterministic' (their statements: YtiahedkmlacpkaaTotals.lean).
  GIVEN WITH THE SEED: the statements are not yours to turn. If you find one false, say at which input.
  Laid BY PROGRAM, IN A SANDBOX (cutbox-rows.mjs): the forced cells as the released guide's own fill.sh prints them over the translation a64dca1fbd03bbc4… (all of the seat's roots in one cut). By AI agents, Wed Nov 11 2026. No macro, syntax, notation, axiom, sorry.
-/
import Derived.Test.YtiahedkmlacpkaaChecked
import GoSem.Claim
import GoSem.ClaimJoined
import GoSem.ClaimMapViews
import Derived.JoinedTies
import Derived.KernelRfl
namespace Go.Proofs.Ytiahedkmlacpkaa
/- THE CELL 'sum', in the pinned program and in every row, IS THE sha256 OF THE DUMP (.gsa) THAT YtiahedkmlacpkaaProg.lean LOADS. Nothing in Lean hashes anything: it is a label: what it is worth is what the hold of that sum in a sandbox is worth. -/
noncomputable def Try.pinned : Pinned := { name := "ytiahedkmlacpkaa", sum := "a64dca1fbd03bbc4682147757e8a03fa2a280a854db38d263f670c113ca2bbd3", checked := Try.checked }
namespace Rows
def none {H : Type} : Left H := { results := [], args := [] }

/-- 'laws.FnExactCountDrops': WHATEVER THE INPUT: true; the input reads as it did. -/
def fnExactCountDropsSpec : ChangeSpec := { name := "fnExactCountDrops", fn := fun _ => fun
  | [d1, d2, d3] => { results := [.lit (.bool true)], args := [d1, d2, d3] }
  | _ => none }
def fnExactCountDropsRow : OpenClaim := { program := "ytiahedkmlacpkaa", sum := "a64dca1fbd03bbc4682147757e8a03fa2a280a854db38d263f670c113ca2bbd3", func := "loop.example/g01325/laws.FnExactCountDrops", spec := "fnExactCountDrops", unfollowed := true, recurses := true, apart := false }
def FnExactCountDropsSaid : Prop := fnExactCountDropsRow.holds Try.pinned (OpenSpec.ofChange fnExactCountDropsSpec)

/-- ITS FALSE NEIGHBOUR: 'it returns false'. Refute it at one input. -/
def fnExactCountDropsWrong : ChangeSpec := { name := "fnExactCountDrops", fn := fun _ => fun
  | [d1, d2, d3] => { results := [.lit (.bool false)], args := [d1, d2, d3] }
  | _ => none }
def FnExactCountDropsWrongFalsely : Prop := fnExactCountDropsRow.holds Try.pinned (OpenSpec.ofChange fnExactCountDropsWrong)

/-- 'laws.FnExactBrokenEggs': WHATEVER THE INPUT: true; the input reads as it did. -/
def fnExactBrokenEggsSpec : ChangeSpec := { name := "fnExactBrokenEggs", fn := fun _ => fun
  | [d1, d2, d3] => { results := [.lit (.bool true)], args := [d1, d2, d3] }
  | _ => none }
def fnExactBrokenEggsRow : OpenClaim := { program := "ytiahedkmlacpkaa", sum := "a64dca1fbd03bbc4682147757e8a03fa2a280a854db38d263f670c113ca2bbd3", func := "loop.example/g01325/laws.FnExactBrokenEggs", spec := "fnExactBrokenEggs", unfollowed := true, recurses := true, apart := false }
def FnExactBrokenEggsSaid : Prop := fnExactBrokenEggsRow.holds Try.pinned (OpenSpec.ofChange fnExactBrokenEggsSpec)

/-- ITS FALSE NEIGHBOUR: 'it returns false'. Refute it at one input. -/
def fnExactBrokenEggsWrong : ChangeSpec := { name := "fnExactBrokenEggs", fn := fun _ => fun
  | [d1, d2, d3] => { results := [.lit (.bool false)], args := [d1, d2, d3] }
  | _ => none }
def FnExactBrokenEggsWrongFalsely : Prop := fnExactBrokenEggsRow.holds Try.pinned (OpenSpec.ofChange fnExactBrokenEggsWrong)

/-- 'laws.FnExactPlayDrops': WHATEVER THE INPUT: true; the input reads as it did. -/
def fnExactPlayDropsSpec : ChangeSpec := { name := "fnExactPlayDrops", fn := fun _ => fun
  | [d1, d2, d3] => { results := [.lit (.bool true)], args := [d1, d2, d3] }
  | _ => none }
def fnExactPlayDropsRow : OpenClaim := { program := "ytiahedkmlacpkaa", sum := "a64dca1fbd03bbc4682147757e8a03fa2a280a854db38d263f670c113ca2bbd3", func := "loop.example/g01325/laws.FnExactPlayDrops", spec := "fnExactPlayDrops", unfollowed := true, recurses := true, apart := false }
def FnExactPlayDropsSaid : Prop := fnExactPlayDropsRow.holds Try.pinned (OpenSpec.ofChange fnExactPlayDropsSpec)

/-- ITS FALSE NEIGHBOUR: 'it returns false'. Refute it at one input. -/
def fnExactPlayDropsWrong : ChangeSpec := { name := "fnExactPlayDrops", fn := fun _ => fun
  | [d1, d2, d3] => { results := [.lit (.bool false)], args := [d1, d2, d3] }
  | _ => none }
def FnExactPlayDropsWrongFalsely : Prop := fnExactPlayDropsRow.holds Try.pinned (OpenSpec.ofChange fnExactPlayDropsWrong)

/-- 'laws.FnExactHardestBreaks': WHATEVER THE INPUT: true; the input reads as it did. -/
def fnExactHardestBreaksSpec : ChangeSpec := { name := "fnExactHardestBreaks", fn := fun _ => fun
  | [d1, d2] => { results := [.lit (.bool true)], args := [d1, d2] }
  | _ => none }
def fnExactHardestBreaksRow : OpenClaim := { program := "ytiahedkmlacpkaa", sum := "a64dca1fbd03bbc4682147757e8a03fa2a280a854db38d263f670c113ca2bbd3", func := "loop.example/g01325/laws.FnExactHardestBreaks", spec := "fnExactHardestBreaks", unfollowed := true, recurses := true, apart := false }
def FnExactHardestBreaksSaid : Prop := fnExactHardestBreaksRow.holds Try.pinned (OpenSpec.ofChange fnExactHardestBreaksSpec)

/-- ITS FALSE NEIGHBOUR: 'it returns false'. Refute it at one input. -/
def fnExactHardestBreaksWrong : ChangeSpec := { name := "fnExactHardestBreaks", fn := fun _ => fun
  | [d1, d2] => { results := [.lit (.bool false)], args := [d1, d2] }
  | _ => none }
def FnExactHardestBreaksWrongFalsely : Prop := fnExactHardestBreaksRow.holds Try.pinned (OpenSpec.ofChange fnExactHardestBreaksWrong)

/-- 'laws.FnExactSharedTests': WHATEVER THE INPUT: true; the input reads as it did. -/
def fnExactSharedTestsSpec : ChangeSpec := { name := "fnExactSharedTests", fn := fun _ => fun
  | [d1, d2] => { results := [.lit (.bool true)], args := [d1, d2] }
  | _ => none }
def fnExactSharedTestsRow : OpenClaim := { program := "ytiahedkmlacpkaa", sum := "a64dca1fbd03bbc4682147757e8a03fa2a280a854db38d263f670c113ca2bbd3", func := "loop.example/g01325/laws.FnExactSharedTests", spec := "fnExactSharedTests", unfollowed := true, recurses := true, apart := false }
def FnExactSharedTestsSaid : Prop := fnExactSharedTestsRow.holds Try.pinned (OpenSpec.ofChange fnExactSharedTestsSpec)

/-- ITS FALSE NEIGHBOUR: 'it returns false'. Refute it at one input. -/
def fnExactSharedTestsWrong : ChangeSpec := { name := "fnExactSharedTests", fn := fun _ => fun
  | [d1, d2] => { results := [.lit (.bool false)], args := [d1, d2] }
  | _ => none }
def FnExactSharedTestsWrongFalsely : Prop := fnExactSharedTestsRow.holds Try.pinned (OpenSpec.ofChange fnExactSharedTestsWrong)

/-- 'laws.FnExactBestShares': WHATEVER THE INPUT: true; the input reads as it did. -/
def fnExactBestSharesSpec : ChangeSpec := { name := "fnExactBestShares", fn := fun _ => fun
  | [d1, d2] => { results := [.lit (.bool true)], args := [d1, d2] }
  | _ => none }
def fnExactBestSharesRow : OpenClaim := { program := "ytiahedkmlacpkaa", sum := "a64dca1fbd03bbc4682147757e8a03fa2a280a854db38d263f670c113ca2bbd3", func := "loop.example/g01325/laws.FnExactBestShares", spec := "fnExactBestShares", unfollowed := true, recurses := true, apart := false }
def FnExactBestSharesSaid : Prop := fnExactBestSharesRow.holds Try.pinned (OpenSpec.ofChange fnExactBestSharesSpec)

/-- ITS FALSE NEIGHBOUR: 'it returns false'. Refute it at one input. -/
def fnExactBestSharesWrong : ChangeSpec := { name := "fnExactBestShares", fn := fun _ => fun
  | [d1, d2] => { results := [.lit (.bool false)], args := [d1, d2] }
  | _ => none }
def FnExactBestSharesWrongFalsely : Prop := fnExactBestSharesRow.holds Try.pinned (OpenSpec.ofChange fnExactBestSharesWrong)

/-- 'laws.FnExactSumOfPlay': WHATEVER THE INPUT: true; the input reads as it did. -/
def fnExactSumOfPlaySpec : ChangeSpec := { name := "fnExactSumOfPlay", fn := fun _ => fun
  | [d1, d2] => { results := [.lit (.bool true)], args := [d1, d2] }
  | _ => none }
def fnExactSumOfPlayRow : OpenClaim := { program := "ytiahedkmlacpkaa", sum := "a64dca1fbd03bbc4682147757e8a03fa2a280a854db38d263f670c113ca2bbd3", func := "loop.example/g01325/laws.FnExactSumOfPlay", spec := "fnExactSumOfPlay", unfollowed := true, recurses := true, apart := false }
def FnExactSumOfPlaySaid : Prop := fnExactSumOfPlayRow.holds Try.pinned (OpenSpec.ofChange fnExactSumOfPlaySpec)

/-- ITS FALSE NEIGHBOUR: 'it returns false'. Refute it at one input. -/
def fnExactSumOfPlayWrong : ChangeSpec := { name := "fnExactSumOfPlay", fn := fun _ => fun
  | [d1, d2] => { results := [.lit (.bool false)], args := [d1, d2] }
  | _ => none }
def FnExactSumOfPlayWrongFalsely : Prop := fnExactSumOfPlayRow.holds Try.pinned (OpenSpec.ofChange fnExactSumOfPlayWrong)

/-- 'laws.FnExactCostOfPlay': WHATEVER THE INPUT: true; the input reads as it did. -/
def fnExactCostOfPlaySpec : ChangeSpec := { name := "fnExactCostOfPlay", fn := fun _ => fun
  | [d1, d2, d3] => { results := [.lit (.bool true)], args := [d1, d2, d3] }
  | _ => none }
def fnExactCostOfPlayRow : OpenClaim := { program := "ytiahedkmlacpkaa", sum := "a64dca1fbd03bbc4682147757e8a03fa2a280a854db38d263f670c113ca2bbd3", func := "loop.example/g01325/laws.FnExactCostOfPlay", spec := "fnExactCostOfPlay", unfollowed := true, recurses := true, apart := false }
def FnExactCostOfPlaySaid : Prop := fnExactCostOfPlayRow.holds Try.pinned (OpenSpec.ofChange fnExactCostOfPlaySpec)

/-- ITS FALSE NEIGHBOUR: 'it returns false'. Refute it at one input. -/
def fnExactCostOfPlayWrong : ChangeSpec := { name := "fnExactCostOfPlay", fn := fun _ => fun
  | [d1, d2, d3] => { results := [.lit (.bool false)], args := [d1, d2, d3] }
  | _ => none }
def FnExactCostOfPlayWrongFalsely : Prop := fnExactCostOfPlayRow.holds Try.pinned (OpenSpec.ofChange fnExactCostOfPlayWrong)

/- THE SECOND FORM. 'bulk': how many values and letters a reading holds, each counted each time it is reached (what is shared counts as often as it is met; a slice's spare places count too). A statement '..UptoSaid' is the law's where the arguments, and the package variables that the reading takes, are together of bulk at most 1048576: NARROWER than '..Said'. Prove '..Said' where nothing that the law and all that it calls make is longer than what came in: it says more and counts as full. Else prove '..UptoSaid'. A law counts once. -/
mutual
def uptoBulk {H : Type} : DataW H → Nat
  | .lit (.string bytes) => bytes.length + 1
  | .lit _ => 1
  | .nil => 1
  | .ptr d => uptoBulk d + 1
  | .slice elems spare => uptoBulkAll elems + uptoBulkAll spare + 1
  | .agg parts => uptoBulkAll parts + 1
  | .iface _ d => uptoBulk d + 1
  | .map entries => uptoBulkEntries entries + 1
  | .held _ => 1
def uptoBulkAll {H : Type} : List (DataW H) → Nat
  | [] => 0
  | d :: r => uptoBulk d + uptoBulkAll r
def uptoBulkEntries {H : Type} : List (Lit × DataW H) → Nat
  | [] => 0
  | x :: r => uptoBulkEntry x + uptoBulkEntries r
def uptoBulkEntry {H : Type} : Lit × DataW H → Nat
  | (.string bytes, d) => bytes.length + uptoBulk d + 1
  | (_, d) => uptoBulk d + 1
 end
def uptoSmall : (H : Type) → List (DataW H) → Bool := fun _ ds => decide (uptoBulkAll ds ≤ 1048576)
def OpenSpec.upto (s : _root_.Go.ChangeSpec) : _root_.Go.OpenSpec := { _root_.Go.OpenSpec.ofChange s with cond := some uptoSmall }

/-- 'laws.FnExactCountDrops', WHERE WHAT IT READS IS OF BULK AT MOST 1048576: true; the input reads as it did. -/
def fnExactCountDropsUptoRow : OpenClaim := { program := "ytiahedkmlacpkaa", sum := "a64dca1fbd03bbc4682147757e8a03fa2a280a854db38d263f670c113ca2bbd3", func := "loop.example/g01325/laws.FnExactCountDrops", spec := "fnExactCountDrops", unfollowed := true, recurses := true, apart := false, narrowed := true }
def FnExactCountDropsUptoSaid : Prop := fnExactCountDropsUptoRow.holds Try.pinned (OpenSpec.upto fnExactCountDropsSpec)

/-- 'laws.FnExactBrokenEggs', WHERE WHAT IT READS IS OF BULK AT MOST 1048576: true; the input reads as it did. -/
def fnExactBrokenEggsUptoRow : OpenClaim := { program := "ytiahedkmlacpkaa", sum := "a64dca1fbd03bbc4682147757e8a03fa2a280a854db38d263f670c113ca2bbd3", func := "loop.example/g01325/laws.FnExactBrokenEggs", spec := "fnExactBrokenEggs", unfollowed := true, recurses := true, apart := false, narrowed := true }
def FnExactBrokenEggsUptoSaid : Prop := fnExactBrokenEggsUptoRow.holds Try.pinned (OpenSpec.upto fnExactBrokenEggsSpec)

/-- 'laws.FnExactPlayDrops', WHERE WHAT IT READS IS OF BULK AT MOST 1048576: true; the input reads as it did. -/
def fnExactPlayDropsUptoRow : OpenClaim := { program := "ytiahedkmlacpkaa", sum := "a64dca1fbd03bbc4682147757e8a03fa2a280a854db38d263f670c113ca2bbd3", func := "loop.example/g01325/laws.FnExactPlayDrops", spec := "fnExactPlayDrops", unfollowed := true, recurses := true, apart := false, narrowed := true }
def FnExactPlayDropsUptoSaid : Prop := fnExactPlayDropsUptoRow.holds Try.pinned (OpenSpec.upto fnExactPlayDropsSpec)

/-- 'laws.FnExactHardestBreaks', WHERE WHAT IT READS IS OF BULK AT MOST 1048576: true; the input reads as it did. -/
def fnExactHardestBreaksUptoRow : OpenClaim := { program := "ytiahedkmlacpkaa", sum := "a64dca1fbd03bbc4682147757e8a03fa2a280a854db38d263f670c113ca2bbd3", func := "loop.example/g01325/laws.FnExactHardestBreaks", spec := "fnExactHardestBreaks", unfollowed := true, recurses := true, apart := false, narrowed := true }
def FnExactHardestBreaksUptoSaid : Prop := fnExactHardestBreaksUptoRow.holds Try.pinned (OpenSpec.upto fnExactHardestBreaksSpec)

/-- 'laws.FnExactSharedTests', WHERE WHAT IT READS IS OF BULK AT MOST 1048576: true; the input reads as it did. -/
def fnExactSharedTestsUptoRow : OpenClaim := { program := "ytiahedkmlacpkaa", sum := "a64dca1fbd03bbc4682147757e8a03fa2a280a854db38d263f670c113ca2bbd3", func := "loop.example/g01325/laws.FnExactSharedTests", spec := "fnExactSharedTests", unfollowed := true, recurses := true, apart := false, narrowed := true }
def FnExactSharedTestsUptoSaid : Prop := fnExactSharedTestsUptoRow.holds Try.pinned (OpenSpec.upto fnExactSharedTestsSpec)

/-- 'laws.FnExactBestShares', WHERE WHAT IT READS IS OF BULK AT MOST 1048576: true; the input reads as it did. -/
def fnExactBestSharesUptoRow : OpenClaim := { program := "ytiahedkmlacpkaa", sum := "a64dca1fbd03bbc4682147757e8a03fa2a280a854db38d263f670c113ca2bbd3", func := "loop.example/g01325/laws.FnExactBestShares", spec := "fnExactBestShares", unfollowed := true, recurses := true, apart := false, narrowed := true }
def FnExactBestSharesUptoSaid : Prop := fnExactBestSharesUptoRow.holds Try.pinned (OpenSpec.upto fnExactBestSharesSpec)

/-- 'laws.FnExactSumOfPlay', WHERE WHAT IT READS IS OF BULK AT MOST 1048576: true; the input reads as it did. -/
def fnExactSumOfPlayUptoRow : OpenClaim := { program := "ytiahedkmlacpkaa", sum := "a64dca1fbd03bbc4682147757e8a03fa2a280a854db38d263f670c113ca2bbd3", func := "loop.example/g01325/laws.FnExactSumOfPlay", spec := "fnExactSumOfPlay", unfollowed := true, recurses := true, apart := false, narrowed := true }
def FnExactSumOfPlayUptoSaid : Prop := fnExactSumOfPlayUptoRow.holds Try.pinned (OpenSpec.upto fnExactSumOfPlaySpec)

/-- 'laws.FnExactCostOfPlay', WHERE WHAT IT READS IS OF BULK AT MOST 1048576: true; the input reads as it did. -/
def fnExactCostOfPlayUptoRow : OpenClaim := { program := "ytiahedkmlacpkaa", sum := "a64dca1fbd03bbc4682147757e8a03fa2a280a854db38d263f670c113ca2bbd3", func := "loop.example/g01325/laws.FnExactCostOfPlay", spec := "fnExactCostOfPlay", unfollowed := true, recurses := true, apart := false, narrowed := true }
def FnExactCostOfPlayUptoSaid : Prop := fnExactCostOfPlayUptoRow.holds Try.pinned (OpenSpec.upto fnExactCostOfPlaySpec)

end Rows
end Go.Proofs.Ytiahedkmlacpkaa
