/- The ways of the runs, as a program of ours printed them. -/
import Derived.Test.YtdabdbbgaekmdaaZlTd
import Derived.KernelRfl
namespace Go.Proofs.Ytdabdbbgaekmdaa
set_option linter.unusedVariables false
set_option linter.unusedSimpArgs false
set_option linter.unusedSectionVars false
open Go
set_option maxRecDepth 100000

theorem rAloneP6 : Tree.at_ [false, false, true, false, false, false, true, false, false, false, false, false, false, false, false, false, false, false, false, false, false, false, false, false, false, false, false, false, false, false, true, true, false, false, false] (runCtr { (cxAl Try.prog) with hints := hsAlone } 20 cSAlone [] []) = tAlonec6 := by kernel_rfl
theorem rAloneP7 : Tree.at_ [false, false, true, false, false, false, true, false, false, false, false, false, false, false, false, false, false, false, false, false, false, false, false, false, false, false, false, false, false, false, true, true, false, false, true] (runCtr { (cxAl Try.prog) with hints := hsAlone } 20 cSAlone [] []) = tAlonec7 := by kernel_rfl
theorem rAloneP2 : Tree.at_ [false, false, true, false, false, false, true, false, false, false, false, false, false, false, false, false, false, false, false, false, false, false, false, false, false, false, false, false, false, false, false, true] (runCtr { (cxAl Try.prog) with hints := hsAlone } 20 cSAlone [] []) = tAlonec2 := by kernel_rfl
theorem rAloneP5 : Tree.at_ [false, false, true, false, false, false, true, false, false, false, false, false, false, false, false, false, false, false, false, false, false, false, false, false, false, false, false, false, false, false, true, false, true] (runCtr { (cxAl Try.prog) with hints := hsAlone } 20 cSAlone [] []) = tAlonec5 := by kernel_rfl
end Go.Proofs.Ytdabdbbgaekmdaa
