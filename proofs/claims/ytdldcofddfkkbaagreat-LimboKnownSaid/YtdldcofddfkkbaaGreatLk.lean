/- A closed function: it answers true. -/
import Derived.Test.YtdldcofddfkkbaaGreatLt
import Derived.Test.YtdldcofddfkkbaaGreatLa
import Derived.Test.YtdldcofddfkkbaaGreatLf
import Derived.Test.YtdldcofddfkkbaaGreatLf
import Derived.Test.YtdldcofddfkkbaaGreatLf
import Derived.Test.YtdldcofddfkkbaaGreatLf
import Derived.Test.YtdldcofddfkkbaaGreatLa10
import Derived.Test.YtdldcofddfkkbaaGreatLa3
import Derived.Test.YtdldcofddfkkbaaGreatLa5
import Derived.Test.YtdldcofddfkkbaaGreatLa6
import Derived.Test.YtdldcofddfkkbaaGreatLa9
import Derived.Test.YtdldcofddfkkbaaGreatLk1
import Derived.Test.YtdldcofddfkkbaaGreatLk2
import Derived.Test.YtdldcofddfkkbaaGreatLk3
namespace Go.Proofs.YtdldcofddfkkbaaGreat
set_option linter.unusedVariables false
set_option linter.unusedSimpArgs false
set_option linter.unusedSectionVars false
open Go Go.RowKit

set_option maxRecDepth 1000000 in
theorem kLk : ∀ cs, (runCtr (cxL Tryz.prog [lLa162, lLa224, lLa345, lLk7, lLk24, lLk80, lLk97, lLk117, lLa, lLf0, lLf1, lLf2, lLf3]) 60 (boolC 4) [] []).satC (cxL Tryz.prog [lLa162, lLa224, lLa345, lLk7, lLk24, lLk80, lLk97, lLk117, lLa, lLf0, lLf1, lLf2, lLf3]) preL okL (fun _ o => oneB o) cs 0 [] [] = true := by intro cs; kernel_rfl
theorem hLk : (boolC 4).Holds objs Tryz.prog := lit_root (callable _ Tryz.func4 (by kernel_rfl) (by kernel_rfl)) (all_cons hlLa162 (all_cons hlLa224 (all_cons hlLa345 (all_cons hlLk7 (all_cons hlLk24 (all_cons hlLk80 (all_cons hlLk97 (all_cons hlLk117 (all_cons hlLa (all_cons hlLf0 (all_cons hlLf1 (all_cons hlLf2 (all_cons hlLf3 all_nil))))))))))))) kLk
def lLk : Lit := lB 4
theorem hlLk : (lit lLk).Holds objs Tryz.prog := hLk
end Go.Proofs.YtdldcofddfkkbaaGreat
