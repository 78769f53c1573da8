/- A closed function: it answers true. -/
import Derived.Test.YtdabdbbgaekmdaaLt
import Derived.Test.YtdabdbbgaekmdaaJb
import Derived.Test.YtdabdbbgaekmdaaJb1
import Derived.Test.YtdabdbbgaekmdaaJb2
import Derived.Test.YtdabdbbgaekmdaaJb3
import Derived.Test.YtdabdbbgaekmdaaJb4
import Derived.Test.YtdabdbbgaekmdaaJk1
import Derived.Test.YtdabdbbgaekmdaaJk2
import Derived.Test.YtdabdbbgaekmdaaJk3
import Derived.Test.YtdabdbbgaekmdaaJk4
import Derived.Test.YtdabdbbgaekmdaaJk5
import Derived.Test.YtdabdbbgaekmdaaJk6
import Derived.Test.YtdabdbbgaekmdaaJk7
import Derived.Test.YtdabdbbgaekmdaaJk8
import Derived.Test.YtdabdbbgaekmdaaJk9
namespace Go.Proofs.Ytdabdbbgaekmdaa
set_option linter.unusedVariables false
set_option linter.unusedSimpArgs false
set_option linter.unusedSectionVars false
open Go Go.RowKit

set_option maxRecDepth 1000000 in
theorem kJk : ∀ cs, (runCtr (cxL Try.prog [lJb29, lJb93, lJb123, lJk8, lJk23, lJk39, lJk63, lJk65, lJk68, lJk77, lJk79, lJk88, lJk90, lJk102, lJk104, lJk113, lJk115, lJk129, lJk131, lJk133, lJk143, lJk145, lJk205, lJk207, lJk267, lJk287, lJk289, lJk291, lJk298, lJk300, lJk308, lJk310, lJk311, lJk312, lJb103, lJk313, lJk314, lJk317, lJk319, lJk322, lJk324, lJk326, lJk328, lJk330, lJk332, lJb]) 60 (boolC 10) [] []).satC (cxL Try.prog [lJb29, lJb93, lJb123, lJk8, lJk23, lJk39, lJk63, lJk65, lJk68, lJk77, lJk79, lJk88, lJk90, lJk102, lJk104, lJk113, lJk115, lJk129, lJk131, lJk133, lJk143, lJk145, lJk205, lJk207, lJk267, lJk287, lJk289, lJk291, lJk298, lJk300, lJk308, lJk310, lJk311, lJk312, lJb103, lJk313, lJk314, lJk317, lJk319, lJk322, lJk324, lJk326, lJk328, lJk330, lJk332, lJb]) preL okL (fun _ o => oneB o) cs 0 [] [] = true := by intro cs; kernel_rfl
theorem hJk : (boolC 10).Holds objs Try.prog := lit_root (callable _ Try.func10 (by kernel_rfl) (by kernel_rfl)) (all_cons hlJb29 (all_cons hlJb93 (all_cons hlJb123 (all_cons hlJk8 (all_cons hlJk23 (all_cons hlJk39 (all_cons hlJk63 (all_cons hlJk65 (all_cons hlJk68 (all_cons hlJk77 (all_cons hlJk79 (all_cons hlJk88 (all_cons hlJk90 (all_cons hlJk102 (all_cons hlJk104 (all_cons hlJk113 (all_cons hlJk115 (all_cons hlJk129 (all_cons hlJk131 (all_cons hlJk133 (all_cons hlJk143 (all_cons hlJk145 (all_cons hlJk205 (all_cons hlJk207 (all_cons hlJk267 (all_cons hlJk287 (all_cons hlJk289 (all_cons hlJk291 (all_cons hlJk298 (all_cons hlJk300 (all_cons hlJk308 (all_cons hlJk310 (all_cons hlJk311 (all_cons hlJk312 (all_cons hlJb103 (all_cons hlJk313 (all_cons hlJk314 (all_cons hlJk317 (all_cons hlJk319 (all_cons hlJk322 (all_cons hlJk324 (all_cons hlJk326 (all_cons hlJk328 (all_cons hlJk330 (all_cons hlJk332 (all_cons hlJb all_nil)))))))))))))))))))))))))))))))))))))))))))))) kJk
def lJk : Lit := lB 10
theorem hlJk : (lit lJk).Holds objs Try.prog := hJk
end Go.Proofs.Ytdabdbbgaekmdaa
