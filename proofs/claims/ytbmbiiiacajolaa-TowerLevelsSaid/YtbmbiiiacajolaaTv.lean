/- The ways of the runs, as a program of ours printed them. -/
import Derived.Test.YtbmbiiiacajolaaTvp1
import Derived.Test.YtbmbiiiacajolaaTvp2
import Derived.Test.YtbmbiiiacajolaaTvp3
import Derived.KernelRfl
namespace Go.Proofs.Ytbmbiiiacajolaa
set_option linter.unusedVariables false
set_option linter.unusedSimpArgs false
set_option linter.unusedSectionVars false
open Go
set_option maxRecDepth 100000

theorem rTLevelsH : Tree.heads shTLevels (runCtr { (cxTv Try.prog) with hints := hsTLevels } 40 cTLevels [] []) = hdTLevels := by kernel_rfl
theorem rTLevels : runCtr { (cxTv Try.prog) with hints := hsTLevels } 40 cTLevels [] [] = tTLevels := Tree.glue shTLevels [[false, false, false, true, false, false, false, false, false, false], [false, false, false, true, false, false, false, false, false, true, false, false, false, false, false, false, false, false, false, false, false, false, true, true, true, true, false], [false, false, false, true, false, false, false, false, false, true, false, false, false, false, false, false, false, false, false, false, false, false, true, true, true, true, true], [false, false, false, true, false, false, false, false, false, true, false, false, false, false, false, false, true], [false, false, false, true, false, false, false, false, false, true, false, false, false, false, true], [false, false, false, true, false, false, false, false, true, false, false, false]] _ _ rfl (rTLevelsH.trans qTLevelsH.symm) ⟨rTLevelsP0.trans qTLevelsP0.symm, rTLevelsP1.trans qTLevelsP1.symm, rTLevelsP2.trans qTLevelsP2.symm, rTLevelsP3.trans qTLevelsP3.symm, rTLevelsP4.trans qTLevelsP4.symm, rTLevelsP5.trans qTLevelsP5.symm, trivial⟩

end Go.Proofs.Ytbmbiiiacajolaa
