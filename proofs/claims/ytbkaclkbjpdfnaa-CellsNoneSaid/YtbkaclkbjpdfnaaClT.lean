/- The ways of the runs, as a program of ours printed them. -/
import Derived.Test.YtbkaclkbjpdfnaaCl
import Derived.KernelRfl
namespace Go.Proofs.Ytbkaclkbjpdfnaa
set_option linter.unusedVariables false
set_option linter.unusedSimpArgs false
set_option linter.unusedSectionVars false
open Go
set_option maxRecDepth 100000

def tNone : Tree := (.call 13 [] (.ret [.bx (.var 3)]))
theorem rNone : runCtr (cxL Try.prog) 20 cNone [] [] = tNone := by kernel_rfl

end Go.Proofs.Ytbkaclkbjpdfnaa
