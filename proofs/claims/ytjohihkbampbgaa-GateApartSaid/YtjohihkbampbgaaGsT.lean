/- The ways of the runs, as a program of ours printed them. -/
import Derived.Test.YtjohihkbampbgaaGs
import Derived.KernelRfl
namespace Go.Proofs.Ytjohihkbampbgaa
set_option linter.unusedVariables false
set_option linter.unusedSimpArgs false
set_option linter.unusedSectionVars false
open Go
set_option maxRecDepth 100000

def tStepP : Tree := (.and (.opn 0 5 (.call 0 [.var 1, .ex (.var 2)] (.and (.br (.cmp .eql (.var 7) (.lit 0))
 (.ext (.mk 6 [.ex (.var 2), .ex (.var 3), .ex (.var 4), .ex (.var 7)]) (.ret [.var 8, .var 6, .bx (.lit false)]))
 (.br (.cmp .lss (.var 4) (.bin .sub .u64 (.var 7) (.lit 1)))
 (.ext (.mk 7 [.ex (.var 2), .ex (.var 3), .ex (.var 4), .ex (.var 7), .ex (.lit 13)]) (.ret [.var 8, .var 6, .bx (.lit true)]))
 (.br (.cmp .lss (.bin .sub .u64 (.var 4) (.bin .sub .u64 (.var 7) (.lit 1))) (.var 3))
 (.ext (.mk 7 [.ex (.var 2), .ex (.var 3), .ex (.var 4), .ex (.var 7), .ex (.lit 13)]) (.ret [.var 8, .var 6, .bx (.lit true)]))
 (.ext (.mk 6 [.ex (.var 2), .ex (.var 3), .ex (.var 4), .ex (.var 7)]) (.ret [.var 8, .var 6, .bx (.lit false)]))))) .ok)))
 (.and (.opn 0 6 (.and (.call 2 [.var 1, .ex (.var 2), .ex (.var 5), .ex (.bin .add .u64 (.var 4) (.lit 1))] (.br (.var 7)
 (.ext (.mk 7 [.ex (.var 2), .ex (.var 3), .ex (.var 4), .ex (.var 5), .ex (.lit 0)]) (.ret [.var 8, .var 6, .bx (.lit true)]))
 (.ext (.mk 5 [.ex (.var 2), .ex (.var 3), .ex (.var 4), .ex (.var 5)]) (.ret [.var 8, .var 6, .bx (.lit false)])))) .ok))
 (.and (.opn 0 7 (.ext (.mk 7 [.ex (.var 2), .ex (.var 3), .ex (.var 4), .ex (.var 5), .ex (.var 6)]) (.ret [.var 7, .var 1, .bx (.lit true)])))
 (.nomore 0 [5, 6, 7]))))
theorem rStepP : runCtr (cx Try.prog ctsM) 20 cStepP [(0, [5,6,7])] [(0, [5,6,7])] = tStepP := by kernel_rfl

def tErrP : Tree := (.and (.opn 0 5 (.ext (.mk 5 [.ex (.var 1), .ex (.var 2), .ex (.var 3), .ex (.var 4)]) (.ret [.var 5, .ex (.lit 14)])))
 (.and (.opn 0 6 (.ext (.mk 6 [.ex (.var 1), .ex (.var 2), .ex (.var 3), .ex (.var 4)]) (.ret [.var 5, .ex (.lit 14)])))
 (.and (.opn 0 7 (.ext (.mk 7 [.ex (.var 1), .ex (.var 2), .ex (.var 3), .ex (.var 4), .ex (.var 5)]) (.ret [.var 6, .ex (.var 5)])))
 (.nomore 0 [5, 6, 7]))))
theorem rErrP : runCtr (cx Try.prog ctsM) 20 cErrP [(0, [5,6,7])] [(0, [5,6,7])] = tErrP := by kernel_rfl

def tNewP : Tree := (.br (.cmp .lss (.var 2) (.lit 0))
 (.ext (.mk 7 [.ex (.lit 0), .ex (.lit 0), .ex (.lit 0), .ex (.lit 0), .ex (.lit 3)]) (.ret [.var 5]))
 (.br (.cmp .geq (.var 2) (.var 1))
 (.ext (.mk 7 [.ex (.lit 0), .ex (.lit 0), .ex (.lit 0), .ex (.lit 0), .ex (.lit 3)]) (.ret [.var 5]))
 (.br (.cmp .lss (.var 3) (.lit 0))
 (.ext (.mk 7 [.ex (.lit 0), .ex (.lit 0), .ex (.lit 0), .ex (.lit 0), .ex (.lit 3)]) (.ret [.var 5]))
 (.br (.cmp .gtr (.var 3) (.lit 1099511627776))
 (.ext (.mk 7 [.ex (.lit 0), .ex (.lit 0), .ex (.lit 0), .ex (.lit 0), .ex (.lit 3)]) (.ret [.var 5]))
 (.br (.cmp .lss (.var 4) (.lit 0))
 (.ext (.mk 7 [.ex (.lit 0), .ex (.lit 0), .ex (.lit 0), .ex (.lit 0), .ex (.lit 3)]) (.ret [.var 5]))
 (.br (.cmp .gtr (.var 4) (.lit 1099511627776))
 (.ext (.mk 7 [.ex (.lit 0), .ex (.lit 0), .ex (.lit 0), .ex (.lit 0), .ex (.lit 3)]) (.ret [.var 5]))
 (.ext (.mk 5 [.ex (.bin .add .i64 (.var 0) (.var 2)), .ex (.conv .u64 (.var 3)), .ex (.conv .u64 (.var 4)), .ex (.lit 0)]) (.ret [.var 5]))))))))
theorem rNewP : runCtr (cx Try.prog ctsM) 20 cNewP [] [(0, [5,6,7])] = tNewP := by kernel_rfl

def tLast1 : Tree := (.call 9 [.var 0, .ex (.var 1), .ex (.var 2), .ex (.var 3)] (.br (.var 6)
 (.ret [.var 4, .ex (.var 5)])
 (.ret [.var 4, .ex (.lit (-1))])))
theorem rLast1 : runCtr (cx Try.prog ctsN) 20 cLast1 [] [] = tLast1 := by kernel_rfl

def tBegins : Tree := (.and (.call 8 [.ex (.var 7), .ex (.lit 2)] (.and (.call 8 [.ex (.var 8), .ex (.lit 50)] (.and (.call 8 [.ex (.var 9), .ex (.lit 500)] (.and (.and (.and (.and (.and (.call 9 [.ex (.var 5), .ex (.var 6), .ex (.var 10), .ex (.var 11), .ex (.var 12)] (.and (.ret [.var 13, .ex (.var 10), .ex (.var 11), .ex (.var 12)]) .ok)) .ok) .ok)
 (.and (.and (.and (.call 9 [.ex (.var 5), .ex (.var 6), .ex (.var 10), .ex (.var 11), .ex (.var 12)] (.and (.ret [.var 13, .ex (.var 10), .ex (.var 11), .ex (.var 12)]) .ok)) .ok) .ok) .ok))
 (.and (.and (.and (.and (.call 9 [.ex (.var 5), .ex (.var 6), .ex (.var 10), .ex (.var 11), .ex (.var 12)] (.and (.ret [.var 13, .ex (.var 10), .ex (.var 11), .ex (.var 12)]) .ok)) .ok) .ok)
 (.and (.and (.and (.call 9 [.ex (.var 5), .ex (.var 6), .ex (.var 10), .ex (.var 11), .ex (.var 12)] (.and (.ret [.var 13, .ex (.var 10), .ex (.var 11), .ex (.var 12)]) .ok)) .ok) .ok) .ok))
 (.and (.and (.and (.and (.call 9 [.ex (.var 5), .ex (.var 6), .ex (.var 10), .ex (.var 11), .ex (.var 12)] (.and (.ret [.var 13, .ex (.var 10), .ex (.var 11), .ex (.var 12)]) .ok)) .ok) .ok)
 (.and (.and (.and (.call 9 [.ex (.var 5), .ex (.var 6), .ex (.var 10), .ex (.var 11), .ex (.var 12)] (.and (.ret [.var 13, .ex (.var 10), .ex (.var 11), .ex (.var 12)]) .ok)) .ok) .ok) .ok)) .ok))) .ok)) .ok)) .ok)) .ok)
theorem rBegins : runCtr { (cx Try.prog ctsB) with hints := [(29, 1, [0]), (29, 2, [0])] } 20 cBegins [] [] = tBegins := by kernel_rfl

end Go.Proofs.Ytjohihkbampbgaa
