/- The ways of the runs, as a program of ours printed them. -/
import Derived.Test.YtdabdbbgaekmdaaZlTd
import Derived.KernelRfl
namespace Go.Proofs.Ytdabdbbgaekmdaa
set_option linter.unusedVariables false
set_option linter.unusedSimpArgs false
set_option linter.unusedSectionVars false
open Go
set_option maxRecDepth 100000

theorem rAloneP0 : Tree.at_ [false, false, true, false, false, false, true, false, false, false, false, false, false, false, false, false, false, false, false, false, false, false, false, false, false, false, false, false, false, false, false, false, false] (runCtr { (cxAl Try.prog) with hints := hsAlone } 20 cSAlone [] []) = tAlonec0 := by kernel_rfl
theorem rAloneP1 : Tree.at_ [false, false, true, false, false, false, true, false, false, false, false, false, false, false, false, false, false, false, false, false, false, false, false, false, false, false, false, false, false, false, false, false, true] (runCtr { (cxAl Try.prog) with hints := hsAlone } 20 cSAlone [] []) = tAlonec1 := by kernel_rfl
theorem rAloneP9 : Tree.at_ [false, false, true, false, false, false, true, false, false, false, false, false, false, false, false, false, false, false, false, false, false, false, false, true] (runCtr { (cxAl Try.prog) with hints := hsAlone } 20 cSAlone [] []) = tAlonec9 := by kernel_rfl
end Go.Proofs.Ytdabdbbgaekmdaa
