/- Texts of this proof. -/
import Derived.Test.YtbmbiiiacajolaaLtK
import Derived.Test.YtbmbiiiacajolaaAu1K
import Derived.Test.YtbmbiiiacajolaaAu2K
namespace Go.Proofs.Ytbmbiiiacajolaa
set_option linter.unusedVariables false
set_option linter.unusedSimpArgs false
set_option linter.unusedSectionVars false
open Go Go.RowKit
set_option maxRecDepth 1000000 in
theorem kAu : ∀ cs, (runCtr (cxL Try.prog [lAu1, lAu2, lAu3, lAu4, lAu5, lAu6, lAu7, lAu8, lAu9, lAu10, lAu11, lAu12, lAu13, lAu14, lAu15, lAu16, lAu17, lAu28, lAu29, lAu30, lAu31, lAu32, lAu48, lAu49, lAu50]) 60 (boolC 6) [] []).satC (cxL Try.prog [lAu1, lAu2, lAu3, lAu4, lAu5, lAu6, lAu7, lAu8, lAu9, lAu10, lAu11, lAu12, lAu13, lAu14, lAu15, lAu16, lAu17, lAu28, lAu29, lAu30, lAu31, lAu32, lAu48, lAu49, lAu50]) preL okL (fun _ o => oneB o) cs 0 [] [] = true := by intro cs; kernel_rfl
theorem hAu : (boolC 6).Holds objs Try.prog := lit_root (callable _ Try.func6 (by kernel_rfl) (by kernel_rfl)) (all_cons hlAu1 (all_cons hlAu2 (all_cons hlAu3 (all_cons hlAu4 (all_cons hlAu5 (all_cons hlAu6 (all_cons hlAu7 (all_cons hlAu8 (all_cons hlAu9 (all_cons hlAu10 (all_cons hlAu11 (all_cons hlAu12 (all_cons hlAu13 (all_cons hlAu14 (all_cons hlAu15 (all_cons hlAu16 (all_cons hlAu17 (all_cons hlAu28 (all_cons hlAu29 (all_cons hlAu30 (all_cons hlAu31 (all_cons hlAu32 (all_cons hlAu48 (all_cons hlAu49 (all_cons hlAu50 all_nil))))))))))))))))))))))))) kAu
end Go.Proofs.Ytbmbiiiacajolaa
