/-
  No cell of these rows narrows 'for every input' (looked for: loops, veiled, ifaces, maps, wideKeys, modest, calm, conditions, laid).
  DERIVED. THE GIVEN ROWS OF THIS SEAT. 5 by the template 'for every input the law returns true; each argument reads behind the call as it read before'; 0 by the template 'total and deterministic' (their statements: YtalalaepdjmelaaTotals.lean).
  GIVEN WITH THE SEED: the statements are not yours to turn. If you find one false, say at which input.
  Laid BY PROGRAM, IN A SANDBOX (cutbox-rows.mjs): the forced cells as the released guide's own fill.sh prints them over the translation c1f6e424e98a1c84… (all of the seat's roots in one cut). By AI agents, Wed Nov 11 2026. No macro, syntax, notation, axiom, sorry.
-/
import Derived.Test.YtalalaepdjmelaaChecked
import GoSem.Claim
import GoSem.ClaimJoined
import GoSem.ClaimMapViews
import Derived.JoinedTies
import Derived.KernelRfl
namespace Go.Proofs.Ytalalaepdjmelaa
/- THE CELL 'sum', in the pinned program and in every row, IS THE sha256 OF THE DUMP (.gsa) THAT YtalalaepdjmelaaProg.lean LOADS. Nothing in Lean hashes anything: it is a label: what it is worth is what the hold of that sum in a sandbox is worth. -/
noncomputable def Try.pinned : Pinned := { name := "ytalalaepdjmelaa", sum := "c1f6e424e98a1c84e91d74164ad9e2ea5f386792312d951cb8204e25f4ad459a", checked := Try.checked }
namespace Rows
def none {H : Type} : Left H := { results := [], args := [] }

/-- 'laws.FnExactAddMark': WHATEVER THE INPUT: true; the input reads as it did. -/
def fnExactAddMarkSpec : ChangeSpec := { name := "fnExactAddMark", fn := fun _ => fun
  | [d1, d2, d3] => { results := [.lit (.bool true)], args := [d1, d2, d3] }
  | _ => none }
def fnExactAddMarkRow : OpenClaim := { program := "ytalalaepdjmelaa", sum := "c1f6e424e98a1c84e91d74164ad9e2ea5f386792312d951cb8204e25f4ad459a", func := "loop.example/g01325/laws.FnExactAddMark", spec := "fnExactAddMark", recurses := true, apart := false }
def FnExactAddMarkSaid : Prop := fnExactAddMarkRow.holds Try.pinned (OpenSpec.ofChange fnExactAddMarkSpec)

/-- ITS FALSE NEIGHBOUR: 'it returns false'. Refute it at one input. -/
def fnExactAddMarkWrong : ChangeSpec := { name := "fnExactAddMark", fn := fun _ => fun
  | [d1, d2, d3] => { results := [.lit (.bool false)], args := [d1, d2, d3] }
  | _ => none }
def FnExactAddMarkWrongFalsely : Prop := fnExactAddMarkRow.holds Try.pinned (OpenSpec.ofChange fnExactAddMarkWrong)

/-- 'laws.FnExactWorstMarked': WHATEVER THE INPUT: true; the input reads as it did. -/
def fnExactWorstMarkedSpec : ChangeSpec := { name := "fnExactWorstMarked", fn := fun _ => fun
  | [d1, d2] => { results := [.lit (.bool true)], args := [d1, d2] }
  | _ => none }
def fnExactWorstMarkedRow : OpenClaim := { program := "ytalalaepdjmelaa", sum := "c1f6e424e98a1c84e91d74164ad9e2ea5f386792312d951cb8204e25f4ad459a", func := "loop.example/g01325/laws.FnExactWorstMarked", spec := "fnExactWorstMarked", unfollowed := true, recurses := true, apart := false }
def FnExactWorstMarkedSaid : Prop := fnExactWorstMarkedRow.holds Try.pinned (OpenSpec.ofChange fnExactWorstMarkedSpec)

/-- ITS FALSE NEIGHBOUR: 'it returns false'. Refute it at one input. -/
def fnExactWorstMarkedWrong : ChangeSpec := { name := "fnExactWorstMarked", fn := fun _ => fun
  | [d1, d2] => { results := [.lit (.bool false)], args := [d1, d2] }
  | _ => none }
def FnExactWorstMarkedWrongFalsely : Prop := fnExactWorstMarkedRow.holds Try.pinned (OpenSpec.ofChange fnExactWorstMarkedWrong)

/-- 'laws.FnExactMarkDrops': WHATEVER THE INPUT: true; the input reads as it did. -/
def fnExactMarkDropsSpec : ChangeSpec := { name := "fnExactMarkDrops", fn := fun _ => fun
  | [d1, d2, d3] => { results := [.lit (.bool true)], args := [d1, d2, d3] }
  | _ => none }
def fnExactMarkDropsRow : OpenClaim := { program := "ytalalaepdjmelaa", sum := "c1f6e424e98a1c84e91d74164ad9e2ea5f386792312d951cb8204e25f4ad459a", func := "loop.example/g01325/laws.FnExactMarkDrops", spec := "fnExactMarkDrops", apart := false }
def FnExactMarkDropsSaid : Prop := fnExactMarkDropsRow.holds Try.pinned (OpenSpec.ofChange fnExactMarkDropsSpec)

/-- ITS FALSE NEIGHBOUR: 'it returns false'. Refute it at one input. -/
def fnExactMarkDropsWrong : ChangeSpec := { name := "fnExactMarkDrops", fn := fun _ => fun
  | [d1, d2, d3] => { results := [.lit (.bool false)], args := [d1, d2, d3] }
  | _ => none }
def FnExactMarkDropsWrongFalsely : Prop := fnExactMarkDropsRow.holds Try.pinned (OpenSpec.ofChange fnExactMarkDropsWrong)

/-- 'laws.FnExactHarmlessMarks': WHATEVER THE INPUT: true; the input reads as it did. -/
def fnExactHarmlessMarksSpec : ChangeSpec := { name := "fnExactHarmlessMarks", fn := fun _ => fun
  | [d1, d2] => { results := [.lit (.bool true)], args := [d1, d2] }
  | _ => none }
def fnExactHarmlessMarksRow : OpenClaim := { program := "ytalalaepdjmelaa", sum := "c1f6e424e98a1c84e91d74164ad9e2ea5f386792312d951cb8204e25f4ad459a", func := "loop.example/g01325/laws.FnExactHarmlessMarks", spec := "fnExactHarmlessMarks", apart := false }
def FnExactHarmlessMarksSaid : Prop := fnExactHarmlessMarksRow.holds Try.pinned (OpenSpec.ofChange fnExactHarmlessMarksSpec)

/-- ITS FALSE NEIGHBOUR: 'it returns false'. Refute it at one input. -/
def fnExactHarmlessMarksWrong : ChangeSpec := { name := "fnExactHarmlessMarks", fn := fun _ => fun
  | [d1, d2] => { results := [.lit (.bool false)], args := [d1, d2] }
  | _ => none }
def FnExactHarmlessMarksWrongFalsely : Prop := fnExactHarmlessMarksRow.holds Try.pinned (OpenSpec.ofChange fnExactHarmlessMarksWrong)

/-- 'laws.FnExactCountBestMarks': WHATEVER THE INPUT: true; the input reads as it did. -/
def fnExactCountBestMarksSpec : ChangeSpec := { name := "fnExactCountBestMarks", fn := fun _ => fun
  | [d] => { results := [.lit (.bool true)], args := [d] }
  | _ => none }
def fnExactCountBestMarksRow : OpenClaim := { program := "ytalalaepdjmelaa", sum := "c1f6e424e98a1c84e91d74164ad9e2ea5f386792312d951cb8204e25f4ad459a", func := "loop.example/g01325/laws.FnExactCountBestMarks", spec := "fnExactCountBestMarks", unfollowed := true, recurses := true, apart := false }
def FnExactCountBestMarksSaid : Prop := fnExactCountBestMarksRow.holds Try.pinned (OpenSpec.ofChange fnExactCountBestMarksSpec)

/-- ITS FALSE NEIGHBOUR: 'it returns false'. Refute it at one input. -/
def fnExactCountBestMarksWrong : ChangeSpec := { name := "fnExactCountBestMarks", fn := fun _ => fun
  | [d] => { results := [.lit (.bool false)], args := [d] }
  | _ => none }
def FnExactCountBestMarksWrongFalsely : Prop := fnExactCountBestMarksRow.holds Try.pinned (OpenSpec.ofChange fnExactCountBestMarksWrong)

/- THE SECOND FORM. 'bulk': how many values and letters a reading holds, each counted each time it is reached (what is shared counts as often as it is met; a slice's spare places count too). A statement '..UptoSaid' is the law's where the arguments, and the package variables that the reading takes, are together of bulk at most 1048576: NARROWER than '..Said'. Prove '..Said' where nothing that the law and all that it calls make is longer than what came in: it says more and counts as full. Else prove '..UptoSaid'. A law counts once. -/
mutual
def uptoBulk {H : Type} : DataW H → Nat
  | .lit (.string bytes) => bytes.length + 1
  | .lit _ => 1
  | .nil => 1
  | .ptr d => uptoBulk d + 1
  | .slice elems spare => uptoBulkAll elems + uptoBulkAll spare + 1
  | .agg parts => uptoBulkAll parts + 1
  | .iface _ d => uptoBulk d + 1
  | .map entries => uptoBulkEntries entries + 1
  | .held _ => 1
def uptoBulkAll {H : Type} : List (DataW H) → Nat
  | [] => 0
  | d :: r => uptoBulk d + uptoBulkAll r
def uptoBulkEntries {H : Type} : List (Lit × DataW H) → Nat
  | [] => 0
  | x :: r => uptoBulkEntry x + uptoBulkEntries r
def uptoBulkEntry {H : Type} : Lit × DataW H → Nat
  | (.string bytes, d) => bytes.length + uptoBulk d + 1
  | (_, d) => uptoBulk d + 1
 end
def uptoSmall : (H : Type) → List (DataW H) → Bool := fun _ ds => decide (uptoBulkAll ds ≤ 1048576)
def OpenSpec.upto (s : _root_.Go.ChangeSpec) : _root_.Go.OpenSpec := { _root_.Go.OpenSpec.ofChange s with cond := some uptoSmall }

/-- 'laws.FnExactAddMark', WHERE WHAT IT READS IS OF BULK AT MOST 1048576: true; the input reads as it did. -/
def fnExactAddMarkUptoRow : OpenClaim := { program := "ytalalaepdjmelaa", sum := "c1f6e424e98a1c84e91d74164ad9e2ea5f386792312d951cb8204e25f4ad459a", func := "loop.example/g01325/laws.FnExactAddMark", spec := "fnExactAddMark", recurses := true, apart := false, narrowed := true }
def FnExactAddMarkUptoSaid : Prop := fnExactAddMarkUptoRow.holds Try.pinned (OpenSpec.upto fnExactAddMarkSpec)

/-- 'laws.FnExactWorstMarked', WHERE WHAT IT READS IS OF BULK AT MOST 1048576: true; the input reads as it did. -/
def fnExactWorstMarkedUptoRow : OpenClaim := { program := "ytalalaepdjmelaa", sum := "c1f6e424e98a1c84e91d74164ad9e2ea5f386792312d951cb8204e25f4ad459a", func := "loop.example/g01325/laws.FnExactWorstMarked", spec := "fnExactWorstMarked", unfollowed := true, recurses := true, apart := false, narrowed := true }
def FnExactWorstMarkedUptoSaid : Prop := fnExactWorstMarkedUptoRow.holds Try.pinned (OpenSpec.upto fnExactWorstMarkedSpec)

/-- 'laws.FnExactMarkDrops', WHERE WHAT IT READS IS OF BULK AT MOST 1048576: true; the input reads as it did. -/
def fnExactMarkDropsUptoRow : OpenClaim := { program := "ytalalaepdjmelaa", sum := "c1f6e424e98a1c84e91d74164ad9e2ea5f386792312d951cb8204e25f4ad459a", func := "loop.example/g01325/laws.FnExactMarkDrops", spec := "fnExactMarkDrops", apart := false, narrowed := true }
def FnExactMarkDropsUptoSaid : Prop := fnExactMarkDropsUptoRow.holds Try.pinned (OpenSpec.upto fnExactMarkDropsSpec)

/-- 'laws.FnExactHarmlessMarks', WHERE WHAT IT READS IS OF BULK AT MOST 1048576: true; the input reads as it did. -/
def fnExactHarmlessMarksUptoRow : OpenClaim := { program := "ytalalaepdjmelaa", sum := "c1f6e424e98a1c84e91d74164ad9e2ea5f386792312d951cb8204e25f4ad459a", func := "loop.example/g01325/laws.FnExactHarmlessMarks", spec := "fnExactHarmlessMarks", apart := false, narrowed := true }
def FnExactHarmlessMarksUptoSaid : Prop := fnExactHarmlessMarksUptoRow.holds Try.pinned (OpenSpec.upto fnExactHarmlessMarksSpec)

/-- 'laws.FnExactCountBestMarks', WHERE WHAT IT READS IS OF BULK AT MOST 1048576: true; the input reads as it did. -/
def fnExactCountBestMarksUptoRow : OpenClaim := { program := "ytalalaepdjmelaa", sum := "c1f6e424e98a1c84e91d74164ad9e2ea5f386792312d951cb8204e25f4ad459a", func := "loop.example/g01325/laws.FnExactCountBestMarks", spec := "fnExactCountBestMarks", unfollowed := true, recurses := true, apart := false, narrowed := true }
def FnExactCountBestMarksUptoSaid : Prop := fnExactCountBestMarksUptoRow.holds Try.pinned (OpenSpec.upto fnExactCountBestMarksSpec)

end Rows
end Go.Proofs.Ytalalaepdjmelaa
