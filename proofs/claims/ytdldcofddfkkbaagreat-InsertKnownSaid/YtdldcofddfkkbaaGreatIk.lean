/- A closed function: it answers true. -/
import Derived.Test.YtdldcofddfkkbaaGreatLt
import Derived.Test.YtdldcofddfkkbaaGreatIa
import Derived.Test.YtdldcofddfkkbaaGreatIa
import Derived.Test.YtdldcofddfkkbaaGreatIa
import Derived.Test.YtdldcofddfkkbaaGreatIk1
namespace Go.Proofs.YtdldcofddfkkbaaGreat
set_option linter.unusedVariables false
set_option linter.unusedSimpArgs false
set_option linter.unusedSectionVars false
open Go Go.RowKit

set_option maxRecDepth 1000000 in
theorem kIk : ∀ cs, (runCtr (cxL Tryz.prog [lIk7, lIk8, lIk12, lIk16, lIk20, lIk22, lIk24, lIk27, lIk28, lIk29, lIk30, lIk31, lIk32, lIk33, lIk34, lIa, lIa150, lIa228]) 60 (boolC 7) [] []).satC (cxL Tryz.prog [lIk7, lIk8, lIk12, lIk16, lIk20, lIk22, lIk24, lIk27, lIk28, lIk29, lIk30, lIk31, lIk32, lIk33, lIk34, lIa, lIa150, lIa228]) preL okL (fun _ o => oneB o) cs 0 [] [] = true := by intro cs; kernel_rfl
theorem hIk : (boolC 7).Holds objs Tryz.prog := lit_root (callable _ Tryz.func7 (by kernel_rfl) (by kernel_rfl)) (all_cons hlIk7 (all_cons hlIk8 (all_cons hlIk12 (all_cons hlIk16 (all_cons hlIk20 (all_cons hlIk22 (all_cons hlIk24 (all_cons hlIk27 (all_cons hlIk28 (all_cons hlIk29 (all_cons hlIk30 (all_cons hlIk31 (all_cons hlIk32 (all_cons hlIk33 (all_cons hlIk34 (all_cons hlIa (all_cons hlIa150 (all_cons hlIa228 all_nil)))))))))))))))))) kIk
def lIk : Lit := lB 7
theorem hlIk : (lit lIk).Holds objs Tryz.prog := hIk
end Go.Proofs.YtdldcofddfkkbaaGreat
