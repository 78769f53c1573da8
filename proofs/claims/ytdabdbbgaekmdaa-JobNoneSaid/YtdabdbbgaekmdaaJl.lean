/- A closed function: it answers true. -/
import Derived.Test.YtdabdbbgaekmdaaLt
import Derived.Test.YtdabdbbgaekmdaaJb
import Derived.Test.YtdabdbbgaekmdaaJb3
import Derived.Test.YtdabdbbgaekmdaaJl1
namespace Go.Proofs.Ytdabdbbgaekmdaa
set_option linter.unusedVariables false
set_option linter.unusedSimpArgs false
set_option linter.unusedSectionVars false
open Go Go.RowKit

def lsJl : List Lit := [lJl0, lJl1, lJl2, lJl3, lJl4, lJl5, lJl6, lJl7, lJl8, lJl9, lJl10, lJl12, lJl14, lJl16, lJl18, lJl20, lJl22, lJl24, lJl26, lJl28, lJl30, lJl31, lJl32, lJl34, lJl35, lJb97, lJl36, lJb]
theorem hlsJl : AllHold lsJl := (all_cons hlJl0 (all_cons hlJl1 (all_cons hlJl2 (all_cons hlJl3 (all_cons hlJl4 (all_cons hlJl5 (all_cons hlJl6 (all_cons hlJl7 (all_cons hlJl8 (all_cons hlJl9 (all_cons hlJl10 (all_cons hlJl12 (all_cons hlJl14 (all_cons hlJl16 (all_cons hlJl18 (all_cons hlJl20 (all_cons hlJl22 (all_cons hlJl24 (all_cons hlJl26 (all_cons hlJl28 (all_cons hlJl30 (all_cons hlJl31 (all_cons hlJl32 (all_cons hlJl34 (all_cons hlJl35 (all_cons hlJb97 (all_cons hlJl36 (all_cons hlJb all_nil))))))))))))))))))))))))))))
end Go.Proofs.Ytdabdbbgaekmdaa
