/-
  DERIVED. GIVEN WITH THE SEED: THE CARDS: each row of YtaniojfokildiaaDoorRows.lean that lists a variable, with what it lists TIED to the program's text (the seventh form; the later family's looks); each row that meets fmt, with fmt's text TOLD by the authors' own Lean function (tested against real Go, not proved from fmt's source: count such statements apart). THE CARD IS WHAT COUNTS. Prove the row's statement (the work); the ties are given (YtaniojfokildiaaDoorTie.lean); close each card by the builder's one call (the guide's Derived/Test/ToyasCard.lean, 'card_holds'). Laid BY PROGRAM, IN A SANDBOX (cutbox-door.mjs). By AI agents, Wed Nov 11 2026. No macro, syntax, notation, axiom, sorry.
-/
import Derived.Test.YtaniojfokildiaaDoorRows
import GoSem.ClaimSeven
namespace Go.Proofs.YtaniojfokildiaaDoor
namespace Rows

/-- THE TIED CARD OF 'laws.FnExactParseMarks'. -/
def fnExactParseMarksCard : Claim7 := { stood := { row := fnExactParseMarksRow, standIns := [], harness := (true, "d65e209dd7056faf8d44121e484afaab4ff1a023b221ccbaa9b943bdf0d5e3ac"), looks := true }, kinds := [], alts := [], laidByText := true, laidKinds := [.data, .data, .data, .data, .sentinel, .sentinel, .pinned], laidTests := true, laidLooks := .later }
def FnExactParseMarksCardSaid : Prop := Claim7.holds Tryd.pinned (.plain (OpenSpec.ofChange fnExactParseMarksSpec)) fnExactParseMarksCard

/-- THE TIED CARD OF 'laws.FnExactMarksText'. -/
def fnExactMarksTextCard : Claim7 := { stood := { row := fnExactMarksTextRow, standIns := [], harness := (true, "d65e209dd7056faf8d44121e484afaab4ff1a023b221ccbaa9b943bdf0d5e3ac"), looks := true }, kinds := [], alts := [], laidByText := true, laidKinds := [.data, .data, .data], laidTests := true, laidLooks := .later }
def FnExactMarksTextCardSaid : Prop := Claim7.holds Tryd.pinned (.plain (OpenSpec.ofChange fnExactMarksTextSpec)) fnExactMarksTextCard

/-- THE TIED CARD OF 'laws.FnExactHousesText'. -/
def fnExactHousesTextCard : Claim7 := { stood := { row := fnExactHousesTextRow, standIns := [], harness := (true, "d65e209dd7056faf8d44121e484afaab4ff1a023b221ccbaa9b943bdf0d5e3ac"), looks := true }, kinds := [], alts := [], laidByText := true, laidKinds := [.data, .data, .data], laidTests := true, laidLooks := .later }
def FnExactHousesTextCardSaid : Prop := Claim7.holds Tryd.pinned (.plain (OpenSpec.ofChange fnExactHousesTextSpec)) fnExactHousesTextCard

/-- THE SECOND FORM's CARD OF 'laws.FnExactParseMarks'. -/
def fnExactParseMarksUptoCard : Claim7 := { stood := { row := fnExactParseMarksUptoRow, standIns := [], harness := (true, "d65e209dd7056faf8d44121e484afaab4ff1a023b221ccbaa9b943bdf0d5e3ac"), looks := true }, kinds := [], alts := [], laidByText := true, laidKinds := [.data, .data, .data, .data, .sentinel, .sentinel, .pinned], laidTests := true, laidLooks := .later }
def FnExactParseMarksUptoCardSaid : Prop := Claim7.holds Tryd.pinned (.plain (OpenSpec.upto fnExactParseMarksSpec)) fnExactParseMarksUptoCard

/-- THE SECOND FORM's CARD OF 'laws.FnExactMarksText'. -/
def fnExactMarksTextUptoCard : Claim7 := { stood := { row := fnExactMarksTextUptoRow, standIns := [], harness := (true, "d65e209dd7056faf8d44121e484afaab4ff1a023b221ccbaa9b943bdf0d5e3ac"), looks := true }, kinds := [], alts := [], laidByText := true, laidKinds := [.data, .data, .data], laidTests := true, laidLooks := .later }
def FnExactMarksTextUptoCardSaid : Prop := Claim7.holds Tryd.pinned (.plain (OpenSpec.upto fnExactMarksTextSpec)) fnExactMarksTextUptoCard

/-- THE SECOND FORM's CARD OF 'laws.FnExactHousesText'. -/
def fnExactHousesTextUptoCard : Claim7 := { stood := { row := fnExactHousesTextUptoRow, standIns := [], harness := (true, "d65e209dd7056faf8d44121e484afaab4ff1a023b221ccbaa9b943bdf0d5e3ac"), looks := true }, kinds := [], alts := [], laidByText := true, laidKinds := [.data, .data, .data], laidTests := true, laidLooks := .later }
def FnExactHousesTextUptoCardSaid : Prop := Claim7.holds Tryd.pinned (.plain (OpenSpec.upto fnExactHousesTextSpec)) fnExactHousesTextUptoCard
end Rows
end Go.Proofs.YtaniojfokildiaaDoor
