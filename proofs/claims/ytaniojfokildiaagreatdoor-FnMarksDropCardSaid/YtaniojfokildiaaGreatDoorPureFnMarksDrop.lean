/- The law FnMarksDrop holds: for every input the program's FnMarksDrop returns what the reference's returns, in every field, leaves its arguments as they were, and shares no memory. Conditions: none but those of the given statement. -/
import Derived.Test.YtaniojfokildiaaGreatDoorPrintA24
namespace Go.Proofs.YtaniojfokildiaaGreatDoor.Pure
open Go.RowKit Go.Proofs.YtaniojfokildiaaGreatDoor.PrintA Go.Proofs.YtaniojfokildiaaGreatDoorW.PrintWords Go.Proofs.YtaniojfokildiaaGreatDoorW.PrintLast Go.Proofs.YtaniojfokildiaaGreatDoorLib
set_option linter.unusedVariables false
set_option linter.unusedSimpArgs false

theorem FnMarksDrop : laws_FnMarksDrop.Pure := trivial

end Go.Proofs.YtaniojfokildiaaGreatDoor.Pure
