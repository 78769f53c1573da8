/- A closed function: it answers true. -/
import Derived.Test.YtbmbiiiacajolaaLt
import Derived.Test.YtbmbiiiacajolaaTf
import Derived.Test.YtbmbiiiacajolaaTk1
import Derived.Test.YtbmbiiiacajolaaTk2
import Derived.Test.YtbmbiiiacajolaaTk3
import Derived.Test.YtbmbiiiacajolaaTk4
import Derived.Test.YtbmbiiiacajolaaTk5
import Derived.Test.YtbmbiiiacajolaaTk6
import Derived.Test.YtbmbiiiacajolaaTk7
namespace Go.Proofs.Ytbmbiiiacajolaa
set_option linter.unusedVariables false
set_option linter.unusedSimpArgs false
set_option linter.unusedSectionVars false
open Go Go.RowKit

set_option maxRecDepth 1000000 in
theorem kTk : ∀ cs, (runCtr (cxL Try.prog [lTk0, lTk4, lTk6, lTk8, lTk9, lTk13, lTk16, lTk19, lTk22, lTk171, lTk175, lTk178, lTk179, lTk180, lTk134, lTk183, lTk184, lTk188, lTk1, lTk189, lTk190, lTk194, lTk195, lTk196, lTk197, lTk201, lTk202, lTk215, lTk218, lTk222, lTk263, lTf0, lTf1, lTf2, lTf3, lTf4]) 60 (boolC 8) [] []).satC (cxL Try.prog [lTk0, lTk4, lTk6, lTk8, lTk9, lTk13, lTk16, lTk19, lTk22, lTk171, lTk175, lTk178, lTk179, lTk180, lTk134, lTk183, lTk184, lTk188, lTk1, lTk189, lTk190, lTk194, lTk195, lTk196, lTk197, lTk201, lTk202, lTk215, lTk218, lTk222, lTk263, lTf0, lTf1, lTf2, lTf3, lTf4]) preL okL (fun _ o => oneB o) cs 0 [] [] = true := by intro cs; kernel_rfl
theorem hTk : (boolC 8).Holds objs Try.prog := lit_root (callable _ Try.func8 (by kernel_rfl) (by kernel_rfl)) (all_cons hlTk0 (all_cons hlTk4 (all_cons hlTk6 (all_cons hlTk8 (all_cons hlTk9 (all_cons hlTk13 (all_cons hlTk16 (all_cons hlTk19 (all_cons hlTk22 (all_cons hlTk171 (all_cons hlTk175 (all_cons hlTk178 (all_cons hlTk179 (all_cons hlTk180 (all_cons hlTk134 (all_cons hlTk183 (all_cons hlTk184 (all_cons hlTk188 (all_cons hlTk1 (all_cons hlTk189 (all_cons hlTk190 (all_cons hlTk194 (all_cons hlTk195 (all_cons hlTk196 (all_cons hlTk197 (all_cons hlTk201 (all_cons hlTk202 (all_cons hlTk215 (all_cons hlTk218 (all_cons hlTk222 (all_cons hlTk263 (all_cons hlTf0 (all_cons hlTf1 (all_cons hlTf2 (all_cons hlTf3 (all_cons hlTf4 all_nil)))))))))))))))))))))))))))))))))))) kTk
def lTk : Lit := lB 8
theorem hlTk : (lit lTk).Holds objs Try.prog := hTk
end Go.Proofs.Ytbmbiiiacajolaa
