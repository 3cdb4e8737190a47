/-
  DERIVED. GIVEN WITH THE SEED: THE CARDS: each row of YtaniojfokildiaaGreatDoorRows.lean that lists a variable, with what it lists TIED to the program's text (the seventh form; the later family's looks); each row that meets fmt, with fmt's text TOLD by the authors' own Lean function (tested against real Go, not proved from fmt's source: count such statements apart). THE CARD IS WHAT COUNTS. Prove the row's statement (the work); the ties are given (YtaniojfokildiaaGreatDoorTie.lean); close each card by the builder's one call (the guide's Derived/Test/ToyasCard.lean, 'card_holds'). Laid BY PROGRAM, IN A SANDBOX (cutbox-door.mjs). By AI agents, Wed Nov 11 2026. No macro, syntax, notation, axiom, sorry.
-/
import Derived.Test.YtaniojfokildiaaGreatDoorRows
import GoSem.ClaimSeven
namespace Go.Proofs.YtaniojfokildiaaGreatDoor
namespace Rows

/-- THE TIED CARD OF 'laws.FnMarksDrop'. -/
def fnMarksDropCard : Claim7 := { stood := { row := fnMarksDropRow, standIns := [], harness := (true, "f5a81b451c0e6b350cb779f9e6d71d2334778b143610c7b1d9123c8653ef4882"), looks := true }, kinds := [], alts := [], laidByText := true, laidKinds := [.data, .data, .data, .data, .sentinel, .sentinel, .pinned], laidTests := true, laidLooks := .later }
def FnMarksDropCardSaid : Prop := Claim7.holds Tryz.pinned (.plain (OpenSpec.ofChange fnMarksDropSpec)) fnMarksDropCard

/-- THE SECOND FORM's CARD OF 'laws.FnMarksDrop'. -/
def fnMarksDropUptoCard : Claim7 := { stood := { row := fnMarksDropUptoRow, standIns := [], harness := (true, "f5a81b451c0e6b350cb779f9e6d71d2334778b143610c7b1d9123c8653ef4882"), looks := true }, kinds := [], alts := [], laidByText := true, laidKinds := [.data, .data, .data, .data, .sentinel, .sentinel, .pinned], laidTests := true, laidLooks := .later }
def FnMarksDropUptoCardSaid : Prop := Claim7.holds Tryz.pinned (.plain (OpenSpec.upto fnMarksDropSpec)) fnMarksDropUptoCard
end Rows
end Go.Proofs.YtaniojfokildiaaGreatDoor
