/- The ways of the runs, as a program of ours printed them. -/
import Derived.Test.YtjohihkbampbgaaGk
import Derived.KernelRfl
namespace Go.Proofs.Ytjohihkbampbgaa
set_option linter.unusedVariables false
set_option linter.unusedSimpArgs false
set_option linter.unusedSectionVars false
open Go
set_option maxRecDepth 100000

def tAwake : Tree := (.call 3 [.ex (.lit 6)] (.br (.cmp .eql (.var 1) (.lit 0))
 (.br (.isnil 0)
 (.ret [.bx (.lit false)])
 (.call 9 [.var 0, .ex (.lit 2), .ex (.lit 3)] (.call 11 [.var 2, .ex (.lit 5), .ex (.lit 10)] (.br (.var 4)
 (.call 6 [.var 3] (.need (.cmp .lss (.lit 3) (.var 7)) (.need (.cmp .lss (.lit 3) (.len 6)) (.need (.cmp .lss (.lit 3) (.len 6)) (.br (.cmp .eql (.nth 6 (.lit 3)) (.lit 11))
 (.br (.isnil 5)
 (.ret [.bx (.lit false)])
 (.call 10 [.var 5, .ex (.lit 5), .ex (.lit 14)] (.br (.var 9)
 (.call 11 [.var 8, .ex (.lit 5), .ex (.lit 15)] (.ret [.bx (.var 11)]))
 (.ret [.bx (.lit false)]))))
 (.ret [.bx (.lit false)]))))))
 (.ret [.bx (.lit false)])))))
 (.ret [.bx (.lit false)])))
theorem rAwake : runCtr (cxG Try.prog) 20 cAwake [] [] = tAwake := by kernel_rfl

end Go.Proofs.Ytjohihkbampbgaa
