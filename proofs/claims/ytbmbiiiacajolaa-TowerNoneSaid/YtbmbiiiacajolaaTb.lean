/- Towers: awake, by running. -/
import Derived.Test.YtbmbiiiacajolaaTa
namespace Go.Proofs.Ytbmbiiiacajolaa
set_option linter.unusedVariables false
set_option linter.unusedSimpArgs false
set_option linter.unusedSectionVars false
open Go Go.RowKit

def cxJ (P : Program) : Cx U := { cx P [] with join := true }
end Go.Proofs.Ytbmbiiiacajolaa
