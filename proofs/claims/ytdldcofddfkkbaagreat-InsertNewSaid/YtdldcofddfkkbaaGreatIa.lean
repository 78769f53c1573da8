/- A closed function: it answers true. -/
import Derived.Test.YtdldcofddfkkbaaGreatLt
import Derived.Test.YtdldcofddfkkbaaGreatIa1
import Derived.Test.YtdldcofddfkkbaaGreatIa2
import Derived.Test.YtdldcofddfkkbaaGreatIa3
import Derived.Test.YtdldcofddfkkbaaGreatIa4
import Derived.Test.YtdldcofddfkkbaaGreatIa5
import Derived.Test.YtdldcofddfkkbaaGreatIa6
namespace Go.Proofs.YtdldcofddfkkbaaGreat
set_option linter.unusedVariables false
set_option linter.unusedSimpArgs false
set_option linter.unusedSectionVars false
open Go Go.RowKit

set_option maxRecDepth 1000000 in
theorem kIa : ∀ cs, (runCtr (cxL Tryz.prog [lIa150, lIa152, lIa155, lIa228, lIa230, lIa231, lIa229]) 60 (boolC 46) [] []).satC (cxL Tryz.prog [lIa150, lIa152, lIa155, lIa228, lIa230, lIa231, lIa229]) preL okL (fun _ o => oneB o) cs 0 [] [] = true := by intro cs; kernel_rfl
theorem hIa : (boolC 46).Holds objs Tryz.prog := lit_root (callable _ Tryz.func46 (by kernel_rfl) (by kernel_rfl)) (all_cons hlIa150 (all_cons hlIa152 (all_cons hlIa155 (all_cons hlIa228 (all_cons hlIa230 (all_cons hlIa231 (all_cons hlIa229 all_nil))))))) kIa
def lIa : Lit := lB 46
theorem hlIa : (lit lIa).Holds objs Tryz.prog := hIa
end Go.Proofs.YtdldcofddfkkbaaGreat
