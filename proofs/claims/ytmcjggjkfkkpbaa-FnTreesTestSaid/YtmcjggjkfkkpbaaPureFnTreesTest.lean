/- The law FnTreesTest holds: for every input the program's FnTreesTest returns what the reference's returns, in every field, leaves its arguments as they were, and shares no memory. Conditions: none but those of the given statement. -/
import Derived.Test.YtmcjggjkfkkpbaaPrintA27
namespace Go.Proofs.Ytmcjggjkfkkpbaa.Pure
open Go.RowKit Go.Proofs.Ytmcjggjkfkkpbaa.PrintA Go.Proofs.YtmcjggjkfkkpbaaW.PrintWords Go.Proofs.YtmcjggjkfkkpbaaW.PrintLast Go.Proofs.YtmcjggjkfkkpbaaLib
set_option linter.unusedVariables false
set_option linter.unusedSimpArgs false

theorem FnTreesTest : laws_FnTreesTest.Pure := trivial

end Go.Proofs.Ytmcjggjkfkkpbaa.Pure
