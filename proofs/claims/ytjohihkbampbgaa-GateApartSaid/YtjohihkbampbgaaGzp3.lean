/- The ways of the runs, as a program of ours printed them. -/
import Derived.Test.YtjohihkbampbgaaGzd
import Derived.KernelRfl
namespace Go.Proofs.Ytjohihkbampbgaa
set_option linter.unusedVariables false
set_option linter.unusedSimpArgs false
set_option linter.unusedSectionVars false
open Go
set_option maxRecDepth 100000

theorem rApartP24 : Tree.at_ [false, false, true, false, true, false, true, false, false, true, false, false, false, false, false, false, false, false, false, false, false, false, false, false, false, false, true, true, false, false, false, false, false, false, false, false, false, false, false, false, false, false, false, false, false, false, false, false] (runCtr { (cxV Try.prog) with hints := hsApart } 20 cApart [] []) = tApartc24 := by kernel_rfl
theorem rApartP16 : Tree.at_ [false, false, true, false, true, false, true, false, false, true, false, false, false, false, false, false, false, false, false, false, false, false, false, false, false, false, true, false, false, false, false, false, false, false, false, false, false, false, false, false, false, false, false, false, false, false, true, true] (runCtr { (cxV Try.prog) with hints := hsApart } 20 cApart [] []) = tApartc16 := by kernel_rfl
theorem rApartP13 : Tree.at_ [false, false, true, false, true, false, true, false, false, true, false, false, false, false, false, false, false, false, false, false, false, false, false, false, false, false, false, true] (runCtr { (cxV Try.prog) with hints := hsApart } 20 cApart [] []) = tApartc13 := by kernel_rfl
theorem rApartP33 : Tree.at_ [false, false, true, false, true, false, true, false, false, true, false, false, false, false, false, false, false, false, false, false, false, false, false, false, false, false, true, true, false, true] (runCtr { (cxV Try.prog) with hints := hsApart } 20 cApart [] []) = tApartc33 := by kernel_rfl
theorem rApartP1 : Tree.at_ [false, false, true, false, false] (runCtr { (cxV Try.prog) with hints := hsApart } 20 cApart [] []) = tApartc1 := by kernel_rfl
theorem rApartP12 : Tree.at_ [false, false, true, false, true, false, true, false, false, true, false, false, false, false, false, false, false, false, false, false, false, false, false, false, false, false, false, false, false, false, true] (runCtr { (cxV Try.prog) with hints := hsApart } 20 cApart [] []) = tApartc12 := by kernel_rfl
theorem rApartP20 : Tree.at_ [false, false, true, false, true, false, true, false, false, true, false, false, false, false, false, false, false, false, false, false, false, false, false, false, false, false, true, false, false, false, false, false, false, false, false, false, false, false, false, true] (runCtr { (cxV Try.prog) with hints := hsApart } 20 cApart [] []) = tApartc20 := by kernel_rfl
theorem rApartP28 : Tree.at_ [false, false, true, false, true, false, true, false, false, true, false, false, false, false, false, false, false, false, false, false, false, false, false, false, false, false, true, true, false, false, false, false, false, false, false, false, false, false, false, false, false, false, false, false, true] (runCtr { (cxV Try.prog) with hints := hsApart } 20 cApart [] []) = tApartc28 := by kernel_rfl
theorem rApartP32 : Tree.at_ [false, false, true, false, true, false, true, false, false, true, false, false, false, false, false, false, false, false, false, false, false, false, false, false, false, false, true, true, false, false, false, false, true] (runCtr { (cxV Try.prog) with hints := hsApart } 20 cApart [] []) = tApartc32 := by kernel_rfl
end Go.Proofs.Ytjohihkbampbgaa
