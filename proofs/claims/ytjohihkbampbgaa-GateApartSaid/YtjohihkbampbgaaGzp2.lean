/- The ways of the runs, as a program of ours printed them. -/
import Derived.Test.YtjohihkbampbgaaGzd
import Derived.KernelRfl
namespace Go.Proofs.Ytjohihkbampbgaa
set_option linter.unusedVariables false
set_option linter.unusedSimpArgs false
set_option linter.unusedSectionVars false
open Go
set_option maxRecDepth 100000

theorem rApartP26 : Tree.at_ [false, false, true, false, true, false, true, false, false, true, false, false, false, false, false, false, false, false, false, false, false, false, false, false, false, false, true, true, false, false, false, false, false, false, false, false, false, false, false, false, false, false, false, false, false, false, false, true, true] (runCtr { (cxV Try.prog) with hints := hsApart } 20 cApart [] []) = tApartc26 := by kernel_rfl
theorem rApartP15 : Tree.at_ [false, false, true, false, true, false, true, false, false, true, false, false, false, false, false, false, false, false, false, false, false, false, false, false, false, false, true, false, false, false, false, false, false, false, false, false, false, false, false, false, false, false, false, false, false, false, true, false] (runCtr { (cxV Try.prog) with hints := hsApart } 20 cApart [] []) = tApartc15 := by kernel_rfl
theorem rApartP5 : Tree.at_ [false, false, true, false, true, false, true, false, false, true, false, false, false, false, false, false, false, false, false, false, false, false, false, false, false, false, false, false, false, false, false, false, false, false, false, false, false, false, false, false, false, false, false, false, false, true, false] (runCtr { (cxV Try.prog) with hints := hsApart } 20 cApart [] []) = tApartc5 := by kernel_rfl
theorem rApartP37 : Tree.at_ [false, false, true, false, true, false, true, false, true] (runCtr { (cxV Try.prog) with hints := hsApart } 20 cApart [] []) = tApartc37 := by kernel_rfl
theorem rApartP3 : Tree.at_ [false, false, true, false, true, false, true, false, false, false] (runCtr { (cxV Try.prog) with hints := hsApart } 20 cApart [] []) = tApartc3 := by kernel_rfl
theorem rApartP2 : Tree.at_ [false, false, true, false, true, false, false] (runCtr { (cxV Try.prog) with hints := hsApart } 20 cApart [] []) = tApartc2 := by kernel_rfl
theorem rApartP17 : Tree.at_ [false, false, true, false, true, false, true, false, false, true, false, false, false, false, false, false, false, false, false, false, false, false, false, false, false, false, true, false, false, false, false, false, false, false, false, false, false, false, false, false, false, false, false, false, false, true] (runCtr { (cxV Try.prog) with hints := hsApart } 20 cApart [] []) = tApartc17 := by kernel_rfl
theorem rApartP21 : Tree.at_ [false, false, true, false, true, false, true, false, false, true, false, false, false, false, false, false, false, false, false, false, false, false, false, false, false, false, true, false, false, false, false, false, false, false, false, false, false, false, true] (runCtr { (cxV Try.prog) with hints := hsApart } 20 cApart [] []) = tApartc21 := by kernel_rfl
theorem rApartP29 : Tree.at_ [false, false, true, false, true, false, true, false, false, true, false, false, false, false, false, false, false, false, false, false, false, false, false, false, false, false, true, true, false, false, false, false, false, false, false, false, false, false, false, false, false, false, true] (runCtr { (cxV Try.prog) with hints := hsApart } 20 cApart [] []) = tApartc29 := by kernel_rfl
theorem rApartP7 : Tree.at_ [false, false, true, false, true, false, true, false, false, true, false, false, false, false, false, false, false, false, false, false, false, false, false, false, false, false, false, false, false, false, false, false, false, false, false, false, false, false, false, false, false, false, false, false, true] (runCtr { (cxV Try.prog) with hints := hsApart } 20 cApart [] []) = tApartc7 := by kernel_rfl
end Go.Proofs.Ytjohihkbampbgaa
