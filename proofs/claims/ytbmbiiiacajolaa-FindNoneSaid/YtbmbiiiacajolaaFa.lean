/- A closed function: it answers true. -/
import Derived.Test.YtbmbiiiacajolaaLt
import Derived.Test.YtbmbiiiacajolaaFa1
import Derived.Test.YtbmbiiiacajolaaFa2
import Derived.Test.YtbmbiiiacajolaaFa3
import Derived.Test.YtbmbiiiacajolaaFa4
import Derived.Test.YtbmbiiiacajolaaFa5
namespace Go.Proofs.Ytbmbiiiacajolaa
set_option linter.unusedVariables false
set_option linter.unusedSimpArgs false
set_option linter.unusedSectionVars false
open Go Go.RowKit

set_option maxRecDepth 1000000 in
theorem kFa : ∀ cs, (runCtr (cxL Try.prog [lFa57, lFa1, lFa61, lFa70, lFa71, lFa76, lFa77, lFa84, lFa85, lFa92, lFa93, lFa97, lFa98, lFa105, lFa106, lFa110, lFa111, lFa117, lFa118, lFa119, lFa122, lFa128, lFa129, lFa132, lFa133, lFa141, lFa142, lFa149, lFa150, lFa154, lFa155, lFa162, lFa163, lFa164]) 60 (boolC 40) [] []).satC (cxL Try.prog [lFa57, lFa1, lFa61, lFa70, lFa71, lFa76, lFa77, lFa84, lFa85, lFa92, lFa93, lFa97, lFa98, lFa105, lFa106, lFa110, lFa111, lFa117, lFa118, lFa119, lFa122, lFa128, lFa129, lFa132, lFa133, lFa141, lFa142, lFa149, lFa150, lFa154, lFa155, lFa162, lFa163, lFa164]) preL okL (fun _ o => oneB o) cs 0 [] [] = true := by intro cs; kernel_rfl
theorem hFa : (boolC 40).Holds objs Try.prog := lit_root (callable _ Try.func40 (by kernel_rfl) (by kernel_rfl)) (all_cons hlFa57 (all_cons hlFa1 (all_cons hlFa61 (all_cons hlFa70 (all_cons hlFa71 (all_cons hlFa76 (all_cons hlFa77 (all_cons hlFa84 (all_cons hlFa85 (all_cons hlFa92 (all_cons hlFa93 (all_cons hlFa97 (all_cons hlFa98 (all_cons hlFa105 (all_cons hlFa106 (all_cons hlFa110 (all_cons hlFa111 (all_cons hlFa117 (all_cons hlFa118 (all_cons hlFa119 (all_cons hlFa122 (all_cons hlFa128 (all_cons hlFa129 (all_cons hlFa132 (all_cons hlFa133 (all_cons hlFa141 (all_cons hlFa142 (all_cons hlFa149 (all_cons hlFa150 (all_cons hlFa154 (all_cons hlFa155 (all_cons hlFa162 (all_cons hlFa163 (all_cons hlFa164 all_nil)))))))))))))))))))))))))))))))))) kFa
def lFa : Lit := lB 40
theorem hlFa : (lit lFa).Holds objs Try.prog := hFa
end Go.Proofs.Ytbmbiiiacajolaa
