/- Plain laws on numbers and lists (Choose), without any program. Conditions: those of each lemma. -/
set_option linter.unusedVariables false
set_option linter.unusedSimpArgs false
namespace Go.Proofs.YtaniojfokildiaaGreatDoorLib
end Go.Proofs.YtaniojfokildiaaGreatDoorLib
