/- The ways of the runs, as a program of ours printed them. -/
import Derived.Test.YtbmbiiiacajolaaTvd
import Derived.KernelRfl
namespace Go.Proofs.Ytbmbiiiacajolaa
set_option linter.unusedVariables false
set_option linter.unusedSimpArgs false
set_option linter.unusedSectionVars false
open Go
set_option maxRecDepth 100000

theorem rTLevelsP2 : Tree.at_ [false, false, false, true, false, false, false, false, false, true, false, false, false, false, false, false, false, false, false, false, false, false, true, true, true, true, true] (runCtr { (cxTv Try.prog) with hints := hsTLevels } 40 cTLevels [] []) = tTLevelsc2 := by kernel_rfl
theorem rTLevelsP0 : Tree.at_ [false, false, false, true, false, false, false, false, false, false] (runCtr { (cxTv Try.prog) with hints := hsTLevels } 40 cTLevels [] []) = tTLevelsc0 := by kernel_rfl
end Go.Proofs.Ytbmbiiiacajolaa
