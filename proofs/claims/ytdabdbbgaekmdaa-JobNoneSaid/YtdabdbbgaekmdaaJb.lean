/- A closed function: it answers true. -/
import Derived.Test.YtdabdbbgaekmdaaLt
import Derived.Test.YtdabdbbgaekmdaaJb1
import Derived.Test.YtdabdbbgaekmdaaJb2
import Derived.Test.YtdabdbbgaekmdaaJb3
import Derived.Test.YtdabdbbgaekmdaaJb4
namespace Go.Proofs.Ytdabdbbgaekmdaa
set_option linter.unusedVariables false
set_option linter.unusedSimpArgs false
set_option linter.unusedSectionVars false
open Go Go.RowKit

set_option maxRecDepth 1000000 in
theorem kJb : ∀ cs, (runCtr (cxL Try.prog [lJb29, lJb93, lJb95, lJb123, lJb125, lJb152, lJb154]) 60 (boolC 48) [] []).satC (cxL Try.prog [lJb29, lJb93, lJb95, lJb123, lJb125, lJb152, lJb154]) preL okL (fun _ o => oneB o) cs 0 [] [] = true := by intro cs; kernel_rfl
theorem hJb : (boolC 48).Holds objs Try.prog := lit_root (callable _ Try.func48 (by kernel_rfl) (by kernel_rfl)) (all_cons hlJb29 (all_cons hlJb93 (all_cons hlJb95 (all_cons hlJb123 (all_cons hlJb125 (all_cons hlJb152 (all_cons hlJb154 all_nil))))))) kJb
def lJb : Lit := lB 48
theorem hlJb : (lit lJb).Holds objs Try.prog := hJb
end Go.Proofs.Ytdabdbbgaekmdaa
