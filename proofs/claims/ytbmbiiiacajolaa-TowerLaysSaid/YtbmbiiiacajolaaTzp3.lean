/- The ways of the runs, as a program of ours printed them. -/
import Derived.Test.YtbmbiiiacajolaaTzd
import Derived.KernelRfl
namespace Go.Proofs.Ytbmbiiiacajolaa
set_option linter.unusedVariables false
set_option linter.unusedSimpArgs false
set_option linter.unusedSectionVars false
open Go
set_option maxRecDepth 100000

theorem rTLaysP0 : Tree.at_ [false, false, false, true, false, true, false, true, false, true, false, true, false, false, false, false, false, false, false, false, false, false, false, false, false, false, false, false, false, false, false, false, false, false, false, false, false, false, false, false, false, false, false, false, false, false, false, false, false, false, false, false, false, false, false, false, false, false, false, false, false, false, false, false, false, false, false, false, false, false, false, false, false, false, false, false, false, false, false, false, false, false, false, false] (runCtr { (cxT2 Try.prog) with hints := hsTLays } 40 cTLays [] []) = tTLaysc0 := by kernel_rfl
theorem rTLaysP1 : Tree.at_ [false, false, false, true, false, true, false, true, false, true, false, true, false, false, false, false, false, false, false, false, false, false, false, false, false, false, false, false, false, false, false, false, false, false, false, false, false, false, false, false, false, false, false, false, false, false, false, false, false, false, false, false, false, false, false, false, false, false, false, false, false, false, false, false, false, false, false, false, false, false, false, false, false, false, false, false, false, false, false, false, false, false, false, true, false] (runCtr { (cxT2 Try.prog) with hints := hsTLays } 40 cTLays [] []) = tTLaysc1 := by kernel_rfl
end Go.Proofs.Ytbmbiiiacajolaa
