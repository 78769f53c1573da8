/- A closed function: it answers true. -/
import Derived.Test.YtdldcofddfkkbaaGreatLt
import Derived.Test.YtdldcofddfkkbaaGreatLa1
import Derived.Test.YtdldcofddfkkbaaGreatLa2
import Derived.Test.YtdldcofddfkkbaaGreatLa3
import Derived.Test.YtdldcofddfkkbaaGreatLa4
import Derived.Test.YtdldcofddfkkbaaGreatLa5
import Derived.Test.YtdldcofddfkkbaaGreatLa6
import Derived.Test.YtdldcofddfkkbaaGreatLa7
import Derived.Test.YtdldcofddfkkbaaGreatLa8
import Derived.Test.YtdldcofddfkkbaaGreatLa9
import Derived.Test.YtdldcofddfkkbaaGreatLa10
import Derived.Test.YtdldcofddfkkbaaGreatLa11
namespace Go.Proofs.YtdldcofddfkkbaaGreat
set_option linter.unusedVariables false
set_option linter.unusedSimpArgs false
set_option linter.unusedSectionVars false
open Go Go.RowKit

set_option maxRecDepth 1000000 in
theorem kLa : ∀ cs, (runCtr (cxL Tryz.prog [lLa162, lLa224, lLa345, lLa407]) 60 (boolC 25) [] []).satC (cxL Tryz.prog [lLa162, lLa224, lLa345, lLa407]) preL okL (fun _ o => oneB o) cs 0 [] [] = true := by intro cs; kernel_rfl
theorem hLa : (boolC 25).Holds objs Tryz.prog := lit_root (callable _ Tryz.func25 (by kernel_rfl) (by kernel_rfl)) (all_cons hlLa162 (all_cons hlLa224 (all_cons hlLa345 (all_cons hlLa407 all_nil)))) kLa
def lLa : Lit := lB 25
theorem hlLa : (lit lLa).Holds objs Tryz.prog := hLa
end Go.Proofs.YtdldcofddfkkbaaGreat
