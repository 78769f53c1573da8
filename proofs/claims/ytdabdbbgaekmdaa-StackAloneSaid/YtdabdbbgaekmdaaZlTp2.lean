/- The ways of the runs, as a program of ours printed them. -/
import Derived.Test.YtdabdbbgaekmdaaZlTd
import Derived.KernelRfl
namespace Go.Proofs.Ytdabdbbgaekmdaa
set_option linter.unusedVariables false
set_option linter.unusedSimpArgs false
set_option linter.unusedSectionVars false
open Go
set_option maxRecDepth 100000

theorem rAloneP3 : Tree.at_ [false, false, true, false, false, false, true, false, false, false, false, false, false, false, false, false, false, false, false, false, false, false, false, false, false, false, false, false, false, false, true, false, false, false] (runCtr { (cxAl Try.prog) with hints := hsAlone } 20 cSAlone [] []) = tAlonec3 := by kernel_rfl
theorem rAloneP4 : Tree.at_ [false, false, true, false, false, false, true, false, false, false, false, false, false, false, false, false, false, false, false, false, false, false, false, false, false, false, false, false, false, false, true, false, false, true] (runCtr { (cxAl Try.prog) with hints := hsAlone } 20 cSAlone [] []) = tAlonec4 := by kernel_rfl
theorem rAloneP10 : Tree.at_ [false, false, true, false, false, false, true, false, true] (runCtr { (cxAl Try.prog) with hints := hsAlone } 20 cSAlone [] []) = tAlonec10 := by kernel_rfl
theorem rAloneP8 : Tree.at_ [false, false, true, false, false, false, true, false, false, false, false, false, false, false, false, false, false, false, false, false, false, false, false, false, false, false, false, false, false, false, true, true, false, true] (runCtr { (cxAl Try.prog) with hints := hsAlone } 20 cSAlone [] []) = tAlonec8 := by kernel_rfl
end Go.Proofs.Ytdabdbbgaekmdaa
