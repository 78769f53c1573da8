/- A closed function: it answers true. -/
import Derived.Test.YtbmbiiiacajolaaLt
import Derived.Test.YtbmbiiiacajolaaTbX
import Derived.Test.YtbmbiiiacajolaaNl1
import Derived.Test.YtbmbiiiacajolaaNl2
namespace Go.Proofs.Ytbmbiiiacajolaa
set_option linter.unusedVariables false
set_option linter.unusedSimpArgs false
set_option linter.unusedSectionVars false
open Go Go.RowKit

def lsNl : List Lit := [lNl0, lNl2, lNl3, lNl4, lNl6, lNl7, lNl8, lNl9, lNl10, lNl12, lNl13, lNl16, lNl18, lNl22, lNl26, lNl30, lNl34, lNl38, lNl40, lNl41, lNl43, lNl44, lNl45, lNl53, lNl54, lNl55, lNl79, lTAx]
theorem hlsNl : AllHold lsNl := (all_cons hlNl0 (all_cons hlNl2 (all_cons hlNl3 (all_cons hlNl4 (all_cons hlNl6 (all_cons hlNl7 (all_cons hlNl8 (all_cons hlNl9 (all_cons hlNl10 (all_cons hlNl12 (all_cons hlNl13 (all_cons hlNl16 (all_cons hlNl18 (all_cons hlNl22 (all_cons hlNl26 (all_cons hlNl30 (all_cons hlNl34 (all_cons hlNl38 (all_cons hlNl40 (all_cons hlNl41 (all_cons hlNl43 (all_cons hlNl44 (all_cons hlNl45 (all_cons hlNl53 (all_cons hlNl54 (all_cons hlNl55 (all_cons hlNl79 (all_cons hlTAx all_nil))))))))))))))))))))))))))))
end Go.Proofs.Ytbmbiiiacajolaa
