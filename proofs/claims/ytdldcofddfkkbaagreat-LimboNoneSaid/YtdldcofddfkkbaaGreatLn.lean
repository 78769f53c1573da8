/- A closed function: it answers true. -/
import Derived.Test.YtdldcofddfkkbaaGreatLu
import Derived.Test.YtdldcofddfkkbaaGreatLa
import Derived.Test.YtdldcofddfkkbaaGreatLn1
import Derived.Test.YtdldcofddfkkbaaGreatLn2
import Derived.Test.YtdldcofddfkkbaaGreatLn3
namespace Go.Proofs.YtdldcofddfkkbaaGreat
set_option linter.unusedVariables false
set_option linter.unusedSimpArgs false
set_option linter.unusedSectionVars false
open Go Go.RowKit

set_option maxRecDepth 1000000 in
theorem kLn : ∀ a cs, (runCtr (cxU Tryz.prog [lLn0, lLn1, lLn2, lLn3, lLn4, lLn6, lLn8, lLn10, lLn12, lLn13, lLn14, lLn15, lLn16, lLn18, lLn20, lLn22, lLn24, lLn25, lLn26, lLn27, lLn28, lLn30, lLn32, lLn33, lLn34, lLn35, lLn37, lLn39, lLn40, lLn41, lLn42, lLn44, lLn46, lLn47, lLn48, lLn49, lLn51, lLn53, lLn54, lLn55, lLn56, lLn58, lLn60, lLn61, lLn62, lLn63, lLn65, lLn67, lLn68, lLn69, lLn70, lLn72, lLn74, lLn75, lLn76, lLn77, lLn79, lLn81, lLa]) 60 (boolC1 3) [] []).satC (cxU Tryz.prog [lLn0, lLn1, lLn2, lLn3, lLn4, lLn6, lLn8, lLn10, lLn12, lLn13, lLn14, lLn15, lLn16, lLn18, lLn20, lLn22, lLn24, lLn25, lLn26, lLn27, lLn28, lLn30, lLn32, lLn33, lLn34, lLn35, lLn37, lLn39, lLn40, lLn41, lLn42, lLn44, lLn46, lLn47, lLn48, lLn49, lLn51, lLn53, lLn54, lLn55, lLn56, lLn58, lLn60, lLn61, lLn62, lLn63, lLn65, lLn67, lLn68, lLn69, lLn70, lLn72, lLn74, lLn75, lLn76, lLn77, lLn79, lLn81, lLa]) preU okL (fun _ o => oneB o) cs 0 [] [.i a] = true := by intro a cs; kernel_rfl
theorem hLn : (boolC1 3).Holds objs Tryz.prog := root1 (callable _ Tryz.func3 (by kernel_rfl) (by kernel_rfl)) (all_cons hlLn0 (all_cons hlLn1 (all_cons hlLn2 (all_cons hlLn3 (all_cons hlLn4 (all_cons hlLn6 (all_cons hlLn8 (all_cons hlLn10 (all_cons hlLn12 (all_cons hlLn13 (all_cons hlLn14 (all_cons hlLn15 (all_cons hlLn16 (all_cons hlLn18 (all_cons hlLn20 (all_cons hlLn22 (all_cons hlLn24 (all_cons hlLn25 (all_cons hlLn26 (all_cons hlLn27 (all_cons hlLn28 (all_cons hlLn30 (all_cons hlLn32 (all_cons hlLn33 (all_cons hlLn34 (all_cons hlLn35 (all_cons hlLn37 (all_cons hlLn39 (all_cons hlLn40 (all_cons hlLn41 (all_cons hlLn42 (all_cons hlLn44 (all_cons hlLn46 (all_cons hlLn47 (all_cons hlLn48 (all_cons hlLn49 (all_cons hlLn51 (all_cons hlLn53 (all_cons hlLn54 (all_cons hlLn55 (all_cons hlLn56 (all_cons hlLn58 (all_cons hlLn60 (all_cons hlLn61 (all_cons hlLn62 (all_cons hlLn63 (all_cons hlLn65 (all_cons hlLn67 (all_cons hlLn68 (all_cons hlLn69 (all_cons hlLn70 (all_cons hlLn72 (all_cons hlLn74 (all_cons hlLn75 (all_cons hlLn76 (all_cons hlLn77 (all_cons hlLn79 (all_cons hlLn81 (all_cons hlLa all_nil))))))))))))))))))))))))))))))))))))))))))))))))))))))))))) kLn
end Go.Proofs.YtdldcofddfkkbaaGreat
