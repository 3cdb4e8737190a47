/-
  No cell of these rows narrows 'for every input' (looked for: loops, veiled, ifaces, maps, wideKeys, modest, calm, conditions, laid).
  DERIVED. THE GIVEN ROWS OF THIS SEAT. 8 by the template 'for every input the law returns true; each argument reads behind the call as it read before'; 0 by the template 'total and deterministic' (their statements: YtmclbiollhdbjaaTotals.lean).
  GIVEN WITH THE SEED: the statements are not yours to turn. If you find one false, say at which input.
  Laid BY PROGRAM, IN A SANDBOX (cutbox-rows.mjs): the forced cells as the released guide's own fill.sh prints them over the translation b702213804c72651… (all of the seat's roots in one cut). By AI agents, Wed Nov 11 2026. No macro, syntax, notation, axiom, sorry.
-/
import Derived.Test.YtmclbiollhdbjaaChecked
import GoSem.Claim
import GoSem.ClaimJoined
import GoSem.ClaimMapViews
import Derived.JoinedTies
import Derived.KernelRfl
namespace Go.Proofs.Ytmclbiollhdbjaa
/- THE CELL 'sum', in the pinned program and in every row, IS THE sha256 OF THE DUMP (.gsa) THAT YtmclbiollhdbjaaProg.lean LOADS. Nothing in Lean hashes anything: it is a label: what it is worth is what the hold of that sum in a sandbox is worth. -/
noncomputable def Try.pinned : Pinned := { name := "ytmclbiollhdbjaa", sum := "b702213804c72651a8286de963cfa75029938d0ce8183403b81d2a59a9ea1e3e", checked := Try.checked }
namespace Rows
def none {H : Type} : Left H := { results := [], args := [] }

/-- 'laws.FnExactEggsOfTree': WHATEVER THE INPUT: true; the input reads as it did. -/
def fnExactEggsOfTreeSpec : ChangeSpec := { name := "fnExactEggsOfTree", fn := fun _ => fun
  | [d] => { results := [.lit (.bool true)], args := [d] }
  | _ => none }
def fnExactEggsOfTreeRow : OpenClaim := { program := "ytmclbiollhdbjaa", sum := "b702213804c72651a8286de963cfa75029938d0ce8183403b81d2a59a9ea1e3e", func := "loop.example/g01325/laws.FnExactEggsOfTree", spec := "fnExactEggsOfTree", recurses := true, apart := false }
def FnExactEggsOfTreeSaid : Prop := fnExactEggsOfTreeRow.holds Try.pinned (OpenSpec.ofChange fnExactEggsOfTreeSpec)

/-- ITS FALSE NEIGHBOUR: 'it returns false'. Refute it at one input. -/
def fnExactEggsOfTreeWrong : ChangeSpec := { name := "fnExactEggsOfTree", fn := fun _ => fun
  | [d] => { results := [.lit (.bool false)], args := [d] }
  | _ => none }
def FnExactEggsOfTreeWrongFalsely : Prop := fnExactEggsOfTreeRow.holds Try.pinned (OpenSpec.ofChange fnExactEggsOfTreeWrong)

/-- 'laws.FnExactTestsOfTree': WHATEVER THE INPUT: true; the input reads as it did. -/
def fnExactTestsOfTreeSpec : ChangeSpec := { name := "fnExactTestsOfTree", fn := fun _ => fun
  | [d] => { results := [.lit (.bool true)], args := [d] }
  | _ => none }
def fnExactTestsOfTreeRow : OpenClaim := { program := "ytmclbiollhdbjaa", sum := "b702213804c72651a8286de963cfa75029938d0ce8183403b81d2a59a9ea1e3e", func := "loop.example/g01325/laws.FnExactTestsOfTree", spec := "fnExactTestsOfTree", recurses := true, apart := false }
def FnExactTestsOfTreeSaid : Prop := fnExactTestsOfTreeRow.holds Try.pinned (OpenSpec.ofChange fnExactTestsOfTreeSpec)

/-- ITS FALSE NEIGHBOUR: 'it returns false'. Refute it at one input. -/
def fnExactTestsOfTreeWrong : ChangeSpec := { name := "fnExactTestsOfTree", fn := fun _ => fun
  | [d] => { results := [.lit (.bool false)], args := [d] }
  | _ => none }
def FnExactTestsOfTreeWrongFalsely : Prop := fnExactTestsOfTreeRow.holds Try.pinned (OpenSpec.ofChange fnExactTestsOfTreeWrong)

/-- 'laws.FnExactPartsOfTree': WHATEVER THE INPUT: true; the input reads as it did. -/
def fnExactPartsOfTreeSpec : ChangeSpec := { name := "fnExactPartsOfTree", fn := fun _ => fun
  | [d] => { results := [.lit (.bool true)], args := [d] }
  | _ => none }
def fnExactPartsOfTreeRow : OpenClaim := { program := "ytmclbiollhdbjaa", sum := "b702213804c72651a8286de963cfa75029938d0ce8183403b81d2a59a9ea1e3e", func := "loop.example/g01325/laws.FnExactPartsOfTree", spec := "fnExactPartsOfTree", recurses := true, apart := false }
def FnExactPartsOfTreeSaid : Prop := fnExactPartsOfTreeRow.holds Try.pinned (OpenSpec.ofChange fnExactPartsOfTreeSpec)

/-- ITS FALSE NEIGHBOUR: 'it returns false'. Refute it at one input. -/
def fnExactPartsOfTreeWrong : ChangeSpec := { name := "fnExactPartsOfTree", fn := fun _ => fun
  | [d] => { results := [.lit (.bool false)], args := [d] }
  | _ => none }
def FnExactPartsOfTreeWrongFalsely : Prop := fnExactPartsOfTreeRow.holds Try.pinned (OpenSpec.ofChange fnExactPartsOfTreeWrong)

/-- 'laws.FnExactSumOfTree': WHATEVER THE INPUT: true; the input reads as it did. -/
def fnExactSumOfTreeSpec : ChangeSpec := { name := "fnExactSumOfTree", fn := fun _ => fun
  | [d] => { results := [.lit (.bool true)], args := [d] }
  | _ => none }
def fnExactSumOfTreeRow : OpenClaim := { program := "ytmclbiollhdbjaa", sum := "b702213804c72651a8286de963cfa75029938d0ce8183403b81d2a59a9ea1e3e", func := "loop.example/g01325/laws.FnExactSumOfTree", spec := "fnExactSumOfTree", recurses := true, apart := false }
def FnExactSumOfTreeSaid : Prop := fnExactSumOfTreeRow.holds Try.pinned (OpenSpec.ofChange fnExactSumOfTreeSpec)

/-- ITS FALSE NEIGHBOUR: 'it returns false'. Refute it at one input. -/
def fnExactSumOfTreeWrong : ChangeSpec := { name := "fnExactSumOfTree", fn := fun _ => fun
  | [d] => { results := [.lit (.bool false)], args := [d] }
  | _ => none }
def FnExactSumOfTreeWrongFalsely : Prop := fnExactSumOfTreeRow.holds Try.pinned (OpenSpec.ofChange fnExactSumOfTreeWrong)

/-- 'laws.FnExactRankOfTree': WHATEVER THE INPUT: true; the input reads as it did. -/
def fnExactRankOfTreeSpec : ChangeSpec := { name := "fnExactRankOfTree", fn := fun _ => fun
  | [d] => { results := [.lit (.bool true)], args := [d] }
  | _ => none }
def fnExactRankOfTreeRow : OpenClaim := { program := "ytmclbiollhdbjaa", sum := "b702213804c72651a8286de963cfa75029938d0ce8183403b81d2a59a9ea1e3e", func := "loop.example/g01325/laws.FnExactRankOfTree", spec := "fnExactRankOfTree", recurses := true, apart := false }
def FnExactRankOfTreeSaid : Prop := fnExactRankOfTreeRow.holds Try.pinned (OpenSpec.ofChange fnExactRankOfTreeSpec)

/-- ITS FALSE NEIGHBOUR: 'it returns false'. Refute it at one input. -/
def fnExactRankOfTreeWrong : ChangeSpec := { name := "fnExactRankOfTree", fn := fun _ => fun
  | [d] => { results := [.lit (.bool false)], args := [d] }
  | _ => none }
def FnExactRankOfTreeWrongFalsely : Prop := fnExactRankOfTreeRow.holds Try.pinned (OpenSpec.ofChange fnExactRankOfTreeWrong)

/-- 'laws.FnExactMirrorTree': WHATEVER THE INPUT: true; the input reads as it did. -/
def fnExactMirrorTreeSpec : ChangeSpec := { name := "fnExactMirrorTree", fn := fun _ => fun
  | [d] => { results := [.lit (.bool true)], args := [d] }
  | _ => none }
def fnExactMirrorTreeRow : OpenClaim := { program := "ytmclbiollhdbjaa", sum := "b702213804c72651a8286de963cfa75029938d0ce8183403b81d2a59a9ea1e3e", func := "loop.example/g01325/laws.FnExactMirrorTree", spec := "fnExactMirrorTree", recurses := true, apart := false }
def FnExactMirrorTreeSaid : Prop := fnExactMirrorTreeRow.holds Try.pinned (OpenSpec.ofChange fnExactMirrorTreeSpec)

/-- ITS FALSE NEIGHBOUR: 'it returns false'. Refute it at one input. -/
def fnExactMirrorTreeWrong : ChangeSpec := { name := "fnExactMirrorTree", fn := fun _ => fun
  | [d] => { results := [.lit (.bool false)], args := [d] }
  | _ => none }
def FnExactMirrorTreeWrongFalsely : Prop := fnExactMirrorTreeRow.holds Try.pinned (OpenSpec.ofChange fnExactMirrorTreeWrong)

/-- 'laws.FnExactTreeDrops': WHATEVER THE INPUT: true; the input reads as it did. -/
def fnExactTreeDropsSpec : ChangeSpec := { name := "fnExactTreeDrops", fn := fun _ => fun
  | [d1, d2] => { results := [.lit (.bool true)], args := [d1, d2] }
  | _ => none }
def fnExactTreeDropsRow : OpenClaim := { program := "ytmclbiollhdbjaa", sum := "b702213804c72651a8286de963cfa75029938d0ce8183403b81d2a59a9ea1e3e", func := "loop.example/g01325/laws.FnExactTreeDrops", spec := "fnExactTreeDrops", recurses := true, apart := false }
def FnExactTreeDropsSaid : Prop := fnExactTreeDropsRow.holds Try.pinned (OpenSpec.ofChange fnExactTreeDropsSpec)

/-- ITS FALSE NEIGHBOUR: 'it returns false'. Refute it at one input. -/
def fnExactTreeDropsWrong : ChangeSpec := { name := "fnExactTreeDrops", fn := fun _ => fun
  | [d1, d2] => { results := [.lit (.bool false)], args := [d1, d2] }
  | _ => none }
def FnExactTreeDropsWrongFalsely : Prop := fnExactTreeDropsRow.holds Try.pinned (OpenSpec.ofChange fnExactTreeDropsWrong)

/-- 'laws.FnExactIsBestTree': WHATEVER THE INPUT: true; the input reads as it did. -/
def fnExactIsBestTreeSpec : ChangeSpec := { name := "fnExactIsBestTree", fn := fun _ => fun
  | [d1, d2] => { results := [.lit (.bool true)], args := [d1, d2] }
  | _ => none }
def fnExactIsBestTreeRow : OpenClaim := { program := "ytmclbiollhdbjaa", sum := "b702213804c72651a8286de963cfa75029938d0ce8183403b81d2a59a9ea1e3e", func := "loop.example/g01325/laws.FnExactIsBestTree", spec := "fnExactIsBestTree", recurses := true, apart := false }
def FnExactIsBestTreeSaid : Prop := fnExactIsBestTreeRow.holds Try.pinned (OpenSpec.ofChange fnExactIsBestTreeSpec)

/-- ITS FALSE NEIGHBOUR: 'it returns false'. Refute it at one input. -/
def fnExactIsBestTreeWrong : ChangeSpec := { name := "fnExactIsBestTree", fn := fun _ => fun
  | [d1, d2] => { results := [.lit (.bool false)], args := [d1, d2] }
  | _ => none }
def FnExactIsBestTreeWrongFalsely : Prop := fnExactIsBestTreeRow.holds Try.pinned (OpenSpec.ofChange fnExactIsBestTreeWrong)

/- THE SECOND FORM. 'bulk': how many values and letters a reading holds, each counted each time it is reached (what is shared counts as often as it is met; a slice's spare places count too). A statement '..UptoSaid' is the law's where the arguments, and the package variables that the reading takes, are together of bulk at most 1048576: NARROWER than '..Said'. Prove '..Said' where nothing that the law and all that it calls make is longer than what came in: it says more and counts as full. Else prove '..UptoSaid'. A law counts once. -/
mutual
def uptoBulk {H : Type} : DataW H → Nat
  | .lit (.string bytes) => bytes.length + 1
  | .lit _ => 1
  | .nil => 1
  | .ptr d => uptoBulk d + 1
  | .slice elems spare => uptoBulkAll elems + uptoBulkAll spare + 1
  | .agg parts => uptoBulkAll parts + 1
  | .iface _ d => uptoBulk d + 1
  | .map entries => uptoBulkEntries entries + 1
  | .held _ => 1
def uptoBulkAll {H : Type} : List (DataW H) → Nat
  | [] => 0
  | d :: r => uptoBulk d + uptoBulkAll r
def uptoBulkEntries {H : Type} : List (Lit × DataW H) → Nat
  | [] => 0
  | x :: r => uptoBulkEntry x + uptoBulkEntries r
def uptoBulkEntry {H : Type} : Lit × DataW H → Nat
  | (.string bytes, d) => bytes.length + uptoBulk d + 1
  | (_, d) => uptoBulk d + 1
 end
def uptoSmall : (H : Type) → List (DataW H) → Bool := fun _ ds => decide (uptoBulkAll ds ≤ 1048576)
def OpenSpec.upto (s : _root_.Go.ChangeSpec) : _root_.Go.OpenSpec := { _root_.Go.OpenSpec.ofChange s with cond := some uptoSmall }

/-- 'laws.FnExactEggsOfTree', WHERE WHAT IT READS IS OF BULK AT MOST 1048576: true; the input reads as it did. -/
def fnExactEggsOfTreeUptoRow : OpenClaim := { program := "ytmclbiollhdbjaa", sum := "b702213804c72651a8286de963cfa75029938d0ce8183403b81d2a59a9ea1e3e", func := "loop.example/g01325/laws.FnExactEggsOfTree", spec := "fnExactEggsOfTree", recurses := true, apart := false, narrowed := true }
def FnExactEggsOfTreeUptoSaid : Prop := fnExactEggsOfTreeUptoRow.holds Try.pinned (OpenSpec.upto fnExactEggsOfTreeSpec)

/-- 'laws.FnExactTestsOfTree', WHERE WHAT IT READS IS OF BULK AT MOST 1048576: true; the input reads as it did. -/
def fnExactTestsOfTreeUptoRow : OpenClaim := { program := "ytmclbiollhdbjaa", sum := "b702213804c72651a8286de963cfa75029938d0ce8183403b81d2a59a9ea1e3e", func := "loop.example/g01325/laws.FnExactTestsOfTree", spec := "fnExactTestsOfTree", recurses := true, apart := false, narrowed := true }
def FnExactTestsOfTreeUptoSaid : Prop := fnExactTestsOfTreeUptoRow.holds Try.pinned (OpenSpec.upto fnExactTestsOfTreeSpec)

/-- 'laws.FnExactPartsOfTree', WHERE WHAT IT READS IS OF BULK AT MOST 1048576: true; the input reads as it did. -/
def fnExactPartsOfTreeUptoRow : OpenClaim := { program := "ytmclbiollhdbjaa", sum := "b702213804c72651a8286de963cfa75029938d0ce8183403b81d2a59a9ea1e3e", func := "loop.example/g01325/laws.FnExactPartsOfTree", spec := "fnExactPartsOfTree", recurses := true, apart := false, narrowed := true }
def FnExactPartsOfTreeUptoSaid : Prop := fnExactPartsOfTreeUptoRow.holds Try.pinned (OpenSpec.upto fnExactPartsOfTreeSpec)

/-- 'laws.FnExactSumOfTree', WHERE WHAT IT READS IS OF BULK AT MOST 1048576: true; the input reads as it did. -/
def fnExactSumOfTreeUptoRow : OpenClaim := { program := "ytmclbiollhdbjaa", sum := "b702213804c72651a8286de963cfa75029938d0ce8183403b81d2a59a9ea1e3e", func := "loop.example/g01325/laws.FnExactSumOfTree", spec := "fnExactSumOfTree", recurses := true, apart := false, narrowed := true }
def FnExactSumOfTreeUptoSaid : Prop := fnExactSumOfTreeUptoRow.holds Try.pinned (OpenSpec.upto fnExactSumOfTreeSpec)

/-- 'laws.FnExactRankOfTree', WHERE WHAT IT READS IS OF BULK AT MOST 1048576: true; the input reads as it did. -/
def fnExactRankOfTreeUptoRow : OpenClaim := { program := "ytmclbiollhdbjaa", sum := "b702213804c72651a8286de963cfa75029938d0ce8183403b81d2a59a9ea1e3e", func := "loop.example/g01325/laws.FnExactRankOfTree", spec := "fnExactRankOfTree", recurses := true, apart := false, narrowed := true }
def FnExactRankOfTreeUptoSaid : Prop := fnExactRankOfTreeUptoRow.holds Try.pinned (OpenSpec.upto fnExactRankOfTreeSpec)

/-- 'laws.FnExactMirrorTree', WHERE WHAT IT READS IS OF BULK AT MOST 1048576: true; the input reads as it did. -/
def fnExactMirrorTreeUptoRow : OpenClaim := { program := "ytmclbiollhdbjaa", sum := "b702213804c72651a8286de963cfa75029938d0ce8183403b81d2a59a9ea1e3e", func := "loop.example/g01325/laws.FnExactMirrorTree", spec := "fnExactMirrorTree", recurses := true, apart := false, narrowed := true }
def FnExactMirrorTreeUptoSaid : Prop := fnExactMirrorTreeUptoRow.holds Try.pinned (OpenSpec.upto fnExactMirrorTreeSpec)

/-- 'laws.FnExactTreeDrops', WHERE WHAT IT READS IS OF BULK AT MOST 1048576: true; the input reads as it did. -/
def fnExactTreeDropsUptoRow : OpenClaim := { program := "ytmclbiollhdbjaa", sum := "b702213804c72651a8286de963cfa75029938d0ce8183403b81d2a59a9ea1e3e", func := "loop.example/g01325/laws.FnExactTreeDrops", spec := "fnExactTreeDrops", recurses := true, apart := false, narrowed := true }
def FnExactTreeDropsUptoSaid : Prop := fnExactTreeDropsUptoRow.holds Try.pinned (OpenSpec.upto fnExactTreeDropsSpec)

/-- 'laws.FnExactIsBestTree', WHERE WHAT IT READS IS OF BULK AT MOST 1048576: true; the input reads as it did. -/
def fnExactIsBestTreeUptoRow : OpenClaim := { program := "ytmclbiollhdbjaa", sum := "b702213804c72651a8286de963cfa75029938d0ce8183403b81d2a59a9ea1e3e", func := "loop.example/g01325/laws.FnExactIsBestTree", spec := "fnExactIsBestTree", recurses := true, apart := false, narrowed := true }
def FnExactIsBestTreeUptoSaid : Prop := fnExactIsBestTreeUptoRow.holds Try.pinned (OpenSpec.upto fnExactIsBestTreeSpec)

end Rows
end Go.Proofs.Ytmclbiollhdbjaa
