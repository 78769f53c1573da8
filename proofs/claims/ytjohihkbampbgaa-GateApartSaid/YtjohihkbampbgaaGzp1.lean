/- The ways of the runs, as a program of ours printed them. -/
import Derived.Test.YtjohihkbampbgaaGzd
import Derived.KernelRfl
namespace Go.Proofs.Ytjohihkbampbgaa
set_option linter.unusedVariables false
set_option linter.unusedSimpArgs false
set_option linter.unusedSectionVars false
open Go
set_option maxRecDepth 100000

theorem rApartP35 : Tree.at_ [false, false, true, false, true, false, true, false, false, true, false, false, false, false, false, false, false, false, false, true] (runCtr { (cxV Try.prog) with hints := hsApart } 20 cApart [] []) = tApartc35 := by kernel_rfl
theorem rApartP6 : Tree.at_ [false, false, true, false, true, false, true, false, false, true, false, false, false, false, false, false, false, false, false, false, false, false, false, false, false, false, false, false, false, false, false, false, false, false, false, false, false, false, false, false, false, false, false, false, false, true, true] (runCtr { (cxV Try.prog) with hints := hsApart } 20 cApart [] []) = tApartc6 := by kernel_rfl
theorem rApartP23 : Tree.at_ [false, false, true, false, true, false, true, false, false, true, false, false, false, false, false, false, false, false, false, false, false, false, false, false, false, false, true, false, true] (runCtr { (cxV Try.prog) with hints := hsApart } 20 cApart [] []) = tApartc23 := by kernel_rfl
theorem rApartP0 : Tree.at_ [false, false, false] (runCtr { (cxV Try.prog) with hints := hsApart } 20 cApart [] []) = tApartc0 := by kernel_rfl
theorem rApartP11 : Tree.at_ [false, false, true, false, true, false, true, false, false, true, false, false, false, false, false, false, false, false, false, false, false, false, false, false, false, false, false, false, false, false, false, false, false, false, false, false, false, true] (runCtr { (cxV Try.prog) with hints := hsApart } 20 cApart [] []) = tApartc11 := by kernel_rfl
theorem rApartP19 : Tree.at_ [false, false, true, false, true, false, true, false, false, true, false, false, false, false, false, false, false, false, false, false, false, false, false, false, false, false, true, false, false, false, false, false, false, false, false, false, false, false, false, false, false, true] (runCtr { (cxV Try.prog) with hints := hsApart } 20 cApart [] []) = tApartc19 := by kernel_rfl
theorem rApartP27 : Tree.at_ [false, false, true, false, true, false, true, false, false, true, false, false, false, false, false, false, false, false, false, false, false, false, false, false, false, false, true, true, false, false, false, false, false, false, false, false, false, false, false, false, false, false, false, false, false, false, true] (runCtr { (cxV Try.prog) with hints := hsApart } 20 cApart [] []) = tApartc27 := by kernel_rfl
theorem rApartP31 : Tree.at_ [false, false, true, false, true, false, true, false, false, true, false, false, false, false, false, false, false, false, false, false, false, false, false, false, false, false, true, true, false, false, false, false, false, false, false, false, false, false, false, true] (runCtr { (cxV Try.prog) with hints := hsApart } 20 cApart [] []) = tApartc31 := by kernel_rfl
theorem rApartP9 : Tree.at_ [false, false, true, false, true, false, true, false, false, true, false, false, false, false, false, false, false, false, false, false, false, false, false, false, false, false, false, false, false, false, false, false, false, false, false, false, false, false, false, false, true] (runCtr { (cxV Try.prog) with hints := hsApart } 20 cApart [] []) = tApartc9 := by kernel_rfl
end Go.Proofs.Ytjohihkbampbgaa
