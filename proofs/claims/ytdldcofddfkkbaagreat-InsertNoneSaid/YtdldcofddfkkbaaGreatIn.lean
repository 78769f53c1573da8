/- A closed function: it answers true. -/
import Derived.Test.YtdldcofddfkkbaaGreatLu
import Derived.Test.YtdldcofddfkkbaaGreatIa
import Derived.Test.YtdldcofddfkkbaaGreatIn1
import Derived.Test.YtdldcofddfkkbaaGreatIn2
namespace Go.Proofs.YtdldcofddfkkbaaGreat
set_option linter.unusedVariables false
set_option linter.unusedSimpArgs false
set_option linter.unusedSectionVars false
open Go Go.RowKit

set_option maxRecDepth 1000000 in
theorem kIn : ∀ a cs, (runCtr (cxU Tryz.prog [lIn0, lIn1, lIn2, lIn3, lIn4, lIn5, lIn6, lIn7, lIn8, lIn9, lIn12, lIn13, lIn14, lIn15, lIn16, lIn19, lIn20, lIn21, lIn22, lIn25, lIn26, lIn27, lIn28, lIn31, lIn32, lIn33, lIn34, lIn37, lIn38, lIn39, lIn40, lIn43, lIn44, lIn45, lIn46, lIn49, lIn50, lIn51, lIn52, lIn55, lIn56, lIn57, lIn58, lIn61, lIn62, lIn63, lIn64, lIa]) 60 (boolC1 8) [] []).satC (cxU Tryz.prog [lIn0, lIn1, lIn2, lIn3, lIn4, lIn5, lIn6, lIn7, lIn8, lIn9, lIn12, lIn13, lIn14, lIn15, lIn16, lIn19, lIn20, lIn21, lIn22, lIn25, lIn26, lIn27, lIn28, lIn31, lIn32, lIn33, lIn34, lIn37, lIn38, lIn39, lIn40, lIn43, lIn44, lIn45, lIn46, lIn49, lIn50, lIn51, lIn52, lIn55, lIn56, lIn57, lIn58, lIn61, lIn62, lIn63, lIn64, lIa]) preU okL (fun _ o => oneB o) cs 0 [] [.i a] = true := by intro a cs; kernel_rfl
theorem hIn : (boolC1 8).Holds objs Tryz.prog := root1 (callable _ Tryz.func8 (by kernel_rfl) (by kernel_rfl)) (all_cons hlIn0 (all_cons hlIn1 (all_cons hlIn2 (all_cons hlIn3 (all_cons hlIn4 (all_cons hlIn5 (all_cons hlIn6 (all_cons hlIn7 (all_cons hlIn8 (all_cons hlIn9 (all_cons hlIn12 (all_cons hlIn13 (all_cons hlIn14 (all_cons hlIn15 (all_cons hlIn16 (all_cons hlIn19 (all_cons hlIn20 (all_cons hlIn21 (all_cons hlIn22 (all_cons hlIn25 (all_cons hlIn26 (all_cons hlIn27 (all_cons hlIn28 (all_cons hlIn31 (all_cons hlIn32 (all_cons hlIn33 (all_cons hlIn34 (all_cons hlIn37 (all_cons hlIn38 (all_cons hlIn39 (all_cons hlIn40 (all_cons hlIn43 (all_cons hlIn44 (all_cons hlIn45 (all_cons hlIn46 (all_cons hlIn49 (all_cons hlIn50 (all_cons hlIn51 (all_cons hlIn52 (all_cons hlIn55 (all_cons hlIn56 (all_cons hlIn57 (all_cons hlIn58 (all_cons hlIn61 (all_cons hlIn62 (all_cons hlIn63 (all_cons hlIn64 (all_cons hlIa all_nil)))))))))))))))))))))))))))))))))))))))))))))))) kIn
end Go.Proofs.YtdldcofddfkkbaaGreat
