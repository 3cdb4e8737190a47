/- The law FnTestsFewest holds: for every input the program's FnTestsFewest returns what the reference's returns, in every field, leaves its arguments as they were, and shares no memory. Conditions: none but those of the given statement. -/
import Derived.Test.YtfelkkonjbhkjaaPrintA16
namespace Go.Proofs.Ytfelkkonjbhkjaa.Pure
open Go.RowKit Go.Proofs.Ytfelkkonjbhkjaa.PrintA Go.Proofs.YtfelkkonjbhkjaaW.PrintWords Go.Proofs.YtfelkkonjbhkjaaW.PrintLast Go.Proofs.YtfelkkonjbhkjaaLib
set_option linter.unusedVariables false
set_option linter.unusedSimpArgs false

theorem FnTestsFewest : laws_FnTestsFewest.Pure := trivial

end Go.Proofs.Ytfelkkonjbhkjaa.Pure
