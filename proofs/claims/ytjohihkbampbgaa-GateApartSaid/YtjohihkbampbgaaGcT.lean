/- The ways of the runs, as a program of ours printed them. -/
import Derived.Test.YtjohihkbampbgaaGc
import Derived.KernelRfl
namespace Go.Proofs.Ytjohihkbampbgaa
set_option linter.unusedVariables false
set_option linter.unusedSimpArgs false
set_option linter.unusedSectionVars false
open Go
set_option maxRecDepth 100000

def tFillL0 : Tree := (.br (.cmp .lss (.var 5) (.var 2))
 (.call 1 [.var 4, .ex (.bin .add .i64 (.var 1) (.var 5)), .ex (.lit 0)] (.back 0 4 [.var 6, .ex (.bin .add .i64 (.var 5) (.lit 1))]))
 (.ret [.var 4]))
def tFill : Tree := (.br (.cmp .geq (.var 2) (.lit 1))
 (.br (.cmp .leq (.var 2) (.lit 32))
 (.rng (.loop 0 4 [.var 0, .ex (.lit 0)] tFillL0))
 (.ret [.var 0]))
 (.ret [.var 0]))
theorem rFill : runCtr (cxF Try.prog) 20 cFill [] [] = tFill := by kernel_rfl

end Go.Proofs.Ytjohihkbampbgaa
