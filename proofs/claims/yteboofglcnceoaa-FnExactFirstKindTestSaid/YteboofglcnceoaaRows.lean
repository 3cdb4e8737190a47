/-
  No cell of these rows narrows 'for every input' (looked for: loops, veiled, ifaces, maps, wideKeys, modest, calm, conditions, laid).
  DERIVED. THE GIVEN ROWS OF THIS SEAT. 3 by the template 'for every input the law returns true; each argument reads behind the call as it read before'; 0 by the template 'total and deterministic' (their statements: YteboofglcnceoaaTotals.lean).
  GIVEN WITH THE SEED: the statements are not yours to turn. If you find one false, say at which input.
  Laid BY PROGRAM, IN A SANDBOX (cutbox-rows.mjs): the forced cells as the released guide's own fill.sh prints them over the translation a9f3be1621646b3f… (all of the seat's roots in one cut). By AI agents, Wed Nov 11 2026. No macro, syntax, notation, axiom, sorry.
-/
import Derived.Test.YteboofglcnceoaaChecked
import GoSem.Claim
import GoSem.ClaimJoined
import GoSem.ClaimMapViews
import Derived.JoinedTies
import Derived.KernelRfl
namespace Go.Proofs.Yteboofglcnceoaa
/- THE CELL 'sum', in the pinned program and in every row, IS THE sha256 OF THE DUMP (.gsa) THAT YteboofglcnceoaaProg.lean LOADS. Nothing in Lean hashes anything: it is a label: what it is worth is what the hold of that sum in a sandbox is worth. -/
noncomputable def Try.pinned : Pinned := { name := "yteboofglcnceoaa", sum := "a9f3be1621646b3f8841cda5fd437c2b378298dc0613edd9b448caa07d199c28", checked := Try.checked }
namespace Rows
def none {H : Type} : Left H := { results := [], args := [] }

/-- 'laws.FnExactFewestForWeak': WHATEVER THE INPUT: true; the input reads as it did. -/
def fnExactFewestForWeakSpec : ChangeSpec := { name := "fnExactFewestForWeak", fn := fun _ => fun
  | [d1, d2, d3] => { results := [.lit (.bool true)], args := [d1, d2, d3] }
  | _ => none }
def fnExactFewestForWeakRow : OpenClaim := { program := "yteboofglcnceoaa", sum := "a9f3be1621646b3f8841cda5fd437c2b378298dc0613edd9b448caa07d199c28", func := "loop.example/g01325/laws.FnExactFewestForWeak", spec := "fnExactFewestForWeak", recurses := true, plainKeys := false, apart := false }
def FnExactFewestForWeakSaid : Prop := fnExactFewestForWeakRow.holds Try.pinned (OpenSpec.ofChange fnExactFewestForWeakSpec)

/-- ITS FALSE NEIGHBOUR: 'it returns false'. Refute it at one input. -/
def fnExactFewestForWeakWrong : ChangeSpec := { name := "fnExactFewestForWeak", fn := fun _ => fun
  | [d1, d2, d3] => { results := [.lit (.bool false)], args := [d1, d2, d3] }
  | _ => none }
def FnExactFewestForWeakWrongFalsely : Prop := fnExactFewestForWeakRow.holds Try.pinned (OpenSpec.ofChange fnExactFewestForWeakWrong)

/-- 'laws.FnExactFewestKinds': WHATEVER THE INPUT: true; the input reads as it did. -/
def fnExactFewestKindsSpec : ChangeSpec := { name := "fnExactFewestKinds", fn := fun _ => fun
  | [d1, d2, d3] => { results := [.lit (.bool true)], args := [d1, d2, d3] }
  | _ => none }
def fnExactFewestKindsRow : OpenClaim := { program := "yteboofglcnceoaa", sum := "a9f3be1621646b3f8841cda5fd437c2b378298dc0613edd9b448caa07d199c28", func := "loop.example/g01325/laws.FnExactFewestKinds", spec := "fnExactFewestKinds", recurses := true, plainKeys := false, apart := false }
def FnExactFewestKindsSaid : Prop := fnExactFewestKindsRow.holds Try.pinned (OpenSpec.ofChange fnExactFewestKindsSpec)

/-- ITS FALSE NEIGHBOUR: 'it returns false'. Refute it at one input. -/
def fnExactFewestKindsWrong : ChangeSpec := { name := "fnExactFewestKinds", fn := fun _ => fun
  | [d1, d2, d3] => { results := [.lit (.bool false)], args := [d1, d2, d3] }
  | _ => none }
def FnExactFewestKindsWrongFalsely : Prop := fnExactFewestKindsRow.holds Try.pinned (OpenSpec.ofChange fnExactFewestKindsWrong)

/-- 'laws.FnExactFirstKindTest': WHATEVER THE INPUT: true; the input reads as it did. -/
def fnExactFirstKindTestSpec : ChangeSpec := { name := "fnExactFirstKindTest", fn := fun _ => fun
  | [d1, d2, d3] => { results := [.lit (.bool true)], args := [d1, d2, d3] }
  | _ => none }
def fnExactFirstKindTestRow : OpenClaim := { program := "yteboofglcnceoaa", sum := "a9f3be1621646b3f8841cda5fd437c2b378298dc0613edd9b448caa07d199c28", func := "loop.example/g01325/laws.FnExactFirstKindTest", spec := "fnExactFirstKindTest", unfollowed := true, recurses := true, plainKeys := false, apart := false }
def FnExactFirstKindTestSaid : Prop := fnExactFirstKindTestRow.holds Try.pinned (OpenSpec.ofChange fnExactFirstKindTestSpec)

/-- ITS FALSE NEIGHBOUR: 'it returns false'. Refute it at one input. -/
def fnExactFirstKindTestWrong : ChangeSpec := { name := "fnExactFirstKindTest", fn := fun _ => fun
  | [d1, d2, d3] => { results := [.lit (.bool false)], args := [d1, d2, d3] }
  | _ => none }
def FnExactFirstKindTestWrongFalsely : Prop := fnExactFirstKindTestRow.holds Try.pinned (OpenSpec.ofChange fnExactFirstKindTestWrong)

/- THE SECOND FORM. 'bulk': how many values and letters a reading holds, each counted each time it is reached (what is shared counts as often as it is met; a slice's spare places count too). A statement '..UptoSaid' is the law's where the arguments, and the package variables that the reading takes, are together of bulk at most 1048576: NARROWER than '..Said'. Prove '..Said' where nothing that the law and all that it calls make is longer than what came in: it says more and counts as full. Else prove '..UptoSaid'. A law counts once. -/
mutual
def uptoBulk {H : Type} : DataW H → Nat
  | .lit (.string bytes) => bytes.length + 1
  | .lit _ => 1
  | .nil => 1
  | .ptr d => uptoBulk d + 1
  | .slice elems spare => uptoBulkAll elems + uptoBulkAll spare + 1
  | .agg parts => uptoBulkAll parts + 1
  | .iface _ d => uptoBulk d + 1
  | .map entries => uptoBulkEntries entries + 1
  | .held _ => 1
def uptoBulkAll {H : Type} : List (DataW H) → Nat
  | [] => 0
  | d :: r => uptoBulk d + uptoBulkAll r
def uptoBulkEntries {H : Type} : List (Lit × DataW H) → Nat
  | [] => 0
  | x :: r => uptoBulkEntry x + uptoBulkEntries r
def uptoBulkEntry {H : Type} : Lit × DataW H → Nat
  | (.string bytes, d) => bytes.length + uptoBulk d + 1
  | (_, d) => uptoBulk d + 1
 end
def uptoSmall : (H : Type) → List (DataW H) → Bool := fun _ ds => decide (uptoBulkAll ds ≤ 1048576)
def OpenSpec.upto (s : _root_.Go.ChangeSpec) : _root_.Go.OpenSpec := { _root_.Go.OpenSpec.ofChange s with cond := some uptoSmall }

/-- 'laws.FnExactFewestForWeak', WHERE WHAT IT READS IS OF BULK AT MOST 1048576: true; the input reads as it did. -/
def fnExactFewestForWeakUptoRow : OpenClaim := { program := "yteboofglcnceoaa", sum := "a9f3be1621646b3f8841cda5fd437c2b378298dc0613edd9b448caa07d199c28", func := "loop.example/g01325/laws.FnExactFewestForWeak", spec := "fnExactFewestForWeak", recurses := true, plainKeys := false, apart := false, narrowed := true }
def FnExactFewestForWeakUptoSaid : Prop := fnExactFewestForWeakUptoRow.holds Try.pinned (OpenSpec.upto fnExactFewestForWeakSpec)

/-- 'laws.FnExactFewestKinds', WHERE WHAT IT READS IS OF BULK AT MOST 1048576: true; the input reads as it did. -/
def fnExactFewestKindsUptoRow : OpenClaim := { program := "yteboofglcnceoaa", sum := "a9f3be1621646b3f8841cda5fd437c2b378298dc0613edd9b448caa07d199c28", func := "loop.example/g01325/laws.FnExactFewestKinds", spec := "fnExactFewestKinds", recurses := true, plainKeys := false, apart := false, narrowed := true }
def FnExactFewestKindsUptoSaid : Prop := fnExactFewestKindsUptoRow.holds Try.pinned (OpenSpec.upto fnExactFewestKindsSpec)

/-- 'laws.FnExactFirstKindTest', WHERE WHAT IT READS IS OF BULK AT MOST 1048576: true; the input reads as it did. -/
def fnExactFirstKindTestUptoRow : OpenClaim := { program := "yteboofglcnceoaa", sum := "a9f3be1621646b3f8841cda5fd437c2b378298dc0613edd9b448caa07d199c28", func := "loop.example/g01325/laws.FnExactFirstKindTest", spec := "fnExactFirstKindTest", unfollowed := true, recurses := true, plainKeys := false, apart := false, narrowed := true }
def FnExactFirstKindTestUptoSaid : Prop := fnExactFirstKindTestUptoRow.holds Try.pinned (OpenSpec.upto fnExactFirstKindTestSpec)

end Rows
end Go.Proofs.Yteboofglcnceoaa
