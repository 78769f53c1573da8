/- The ways of the runs, as a program of ours printed them. -/
import Derived.Test.YtjohihkbampbgaaRp
import Derived.KernelRfl
namespace Go.Proofs.Ytjohihkbampbgaa
set_option linter.unusedVariables false
set_option linter.unusedSimpArgs false
set_option linter.unusedSectionVars false
open Go
set_option maxRecDepth 100000

def tFitsG : Tree := (.br (.cmp .lss (.var 2) (.lit 1))
 (.ret [.ex (.lit 3)])
 (.br (.cmp .gtr (.var 2) (.lit 4096))
 (.ret [.ex (.lit 3)])
 (.br (.cmp .geq (.var 1) (.lit 1))
 (.br (.cmp .leq (.var 1) (.lit 32))
 (.br (.cmp .lss (.var 0) (.lit 0))
 (.ret [.ex (.lit 2)])
 (.br (.cmp .gtr (.var 0) (.bin .sub .i64 (.var 2) (.var 1)))
 (.ret [.ex (.lit 2)])
 (.ret [.ex (.lit 0)])))
 (.ret [.ex (.lit 2)]))
 (.ret [.ex (.lit 2)]))))
theorem rFitsG : runCtr (cx Try.prog []) 20 cFitsG [] [] = tFitsG := by kernel_rfl

def tQFits : Tree := (.br (.cmp .lss (.var 2) (.lit 1))
 (.ret [.ex (.lit 3)])
 (.br (.cmp .gtr (.var 2) (.lit 4096))
 (.ret [.ex (.lit 3)])
 (.br (.cmp .lss (.var 1) (.lit 1))
 (.ret [.ex (.lit 2)])
 (.br (.cmp .gtr (.var 1) (.lit 32))
 (.ret [.ex (.lit 2)])
 (.br (.cmp .lss (.var 0) (.lit 0))
 (.ret [.ex (.lit 2)])
 (.br (.cmp .gtr (.var 0) (.bin .sub .i64 (.var 2) (.var 1)))
 (.ret [.ex (.lit 2)])
 (.ret [.ex (.lit 0)])))))))
theorem rQFits : runCtr (cx Try.prog []) 20 cQFits [] [] = tQFits := by kernel_rfl

def tQStepP : Tree := (.and (.opn 0 9 (.br (.cmp .eql (.var 5) (.lit 1))
 (.call 0 [.var 1, .ex (.var 2)] (.br (.cmp .eql (.var 9) (.lit 0))
 (.ext (.mk 9 [.ex (.var 2), .ex (.var 3), .ex (.var 4), .ex (.lit 2), .ex (.var 9), .ex (.var 7)]) (.ret [.var 10, .var 8, .bx (.lit false)]))
 (.br (.cmp .lss (.var 4) (.bin .sub .u64 (.var 9) (.lit 1)))
 (.ext (.mk 9 [.ex (.var 2), .ex (.var 3), .ex (.var 4), .ex (.lit 9), .ex (.var 9), .ex (.lit 13)]) (.ret [.var 10, .var 8, .bx (.lit true)]))
 (.br (.cmp .lss (.bin .sub .u64 (.var 4) (.bin .sub .u64 (.var 9) (.lit 1))) (.var 3))
 (.ext (.mk 9 [.ex (.var 2), .ex (.var 3), .ex (.var 4), .ex (.lit 9), .ex (.var 9), .ex (.lit 13)]) (.ret [.var 10, .var 8, .bx (.lit true)]))
 (.ext (.mk 9 [.ex (.var 2), .ex (.var 3), .ex (.var 4), .ex (.lit 2), .ex (.var 9), .ex (.var 7)]) (.ret [.var 10, .var 8, .bx (.lit false)]))))))
 (.br (.cmp .eql (.var 5) (.lit 2))
 (.and (.call 2 [.var 1, .ex (.var 2), .ex (.var 6), .ex (.bin .add .u64 (.var 4) (.lit 1))] (.br (.var 9)
 (.ext (.mk 9 [.ex (.var 2), .ex (.var 3), .ex (.var 4), .ex (.lit 9), .ex (.var 6), .ex (.var 7)]) (.ret [.var 10, .var 8, .bx (.lit true)]))
 (.ext (.mk 9 [.ex (.var 2), .ex (.var 3), .ex (.var 4), .ex (.lit 1), .ex (.var 6), .ex (.var 7)]) (.ret [.var 10, .var 8, .bx (.lit false)])))) .ok)
 (.ext (.mk 9 [.ex (.var 2), .ex (.var 3), .ex (.var 4), .ex (.var 5), .ex (.var 6), .ex (.var 7)]) (.ret [.var 8, .var 1, .bx (.cmp .eql (.var 5) (.lit 9))])))))
 (.nomore 0 [9]))
theorem rQStepP : runCtr (cx Try.prog ctsQ) 20 cQStepP [(0, [9])] [(0, [9])] = tQStepP := by kernel_rfl

def tQErrP : Tree := (.and (.opn 0 9 (.br (.cmp .eql (.var 4) (.lit 9))
 (.ext (.mk 9 [.ex (.var 1), .ex (.var 2), .ex (.var 3), .ex (.var 4), .ex (.var 5), .ex (.var 6)]) (.ret [.var 7, .ex (.var 6)]))
 (.ext (.mk 9 [.ex (.var 1), .ex (.var 2), .ex (.var 3), .ex (.var 4), .ex (.var 5), .ex (.var 6)]) (.ret [.var 7, .ex (.lit 14)]))))
 (.nomore 0 [9]))
theorem rQErrP : runCtr (cx Try.prog ctsQ) 20 cQErrP [(0, [9])] [(0, [9])] = tQErrP := by kernel_rfl

def tQNewP : Tree := (.br (.cmp .lss (.var 2) (.lit 0))
 (.ext (.mk 9 [.ex (.lit 0), .ex (.lit 0), .ex (.lit 0), .ex (.lit 9), .ex (.lit 0), .ex (.lit 3)]) (.ret [.var 5]))
 (.br (.cmp .geq (.var 2) (.var 1))
 (.ext (.mk 9 [.ex (.lit 0), .ex (.lit 0), .ex (.lit 0), .ex (.lit 9), .ex (.lit 0), .ex (.lit 3)]) (.ret [.var 5]))
 (.br (.cmp .lss (.var 3) (.lit 0))
 (.ext (.mk 9 [.ex (.lit 0), .ex (.lit 0), .ex (.lit 0), .ex (.lit 9), .ex (.lit 0), .ex (.lit 3)]) (.ret [.var 5]))
 (.br (.cmp .gtr (.var 3) (.lit 1099511627776))
 (.ext (.mk 9 [.ex (.lit 0), .ex (.lit 0), .ex (.lit 0), .ex (.lit 9), .ex (.lit 0), .ex (.lit 3)]) (.ret [.var 5]))
 (.br (.cmp .lss (.var 4) (.lit 0))
 (.ext (.mk 9 [.ex (.lit 0), .ex (.lit 0), .ex (.lit 0), .ex (.lit 9), .ex (.lit 0), .ex (.lit 3)]) (.ret [.var 5]))
 (.br (.cmp .gtr (.var 4) (.lit 1099511627776))
 (.ext (.mk 9 [.ex (.lit 0), .ex (.lit 0), .ex (.lit 0), .ex (.lit 9), .ex (.lit 0), .ex (.lit 3)]) (.ret [.var 5]))
 (.ext (.mk 9 [.ex (.bin .add .i64 (.var 0) (.var 2)), .ex (.conv .u64 (.var 3)), .ex (.conv .u64 (.var 4)), .ex (.lit 1), .ex (.lit 0), .ex (.lit 0)]) (.ret [.var 5]))))))))
theorem rQNewP : runCtr (cx Try.prog ctsQ) 20 cQNewP [] [(0, [9])] = tQNewP := by kernel_rfl

def tQLastG : Tree := (.br (.cmp .lss (.var 3) (.lit 0))
 (.ret [.var 0, .ex (.lit 0), .bx (.lit false)])
 (.br (.cmp .geq (.var 3) (.var 2))
 (.ret [.var 0, .ex (.lit 0), .bx (.lit false)])
 (.call 6 [.var 0, .ex (.bin .add .i64 (.var 1) (.var 3))] (.br (.cmp .eql (.var 5) (.lit 0))
 (.ret [.var 4, .ex (.lit 0), .bx (.lit false)])
 (.br (.cmp .gtr (.var 5) (.lit 1099511627777))
 (.ret [.var 4, .ex (.lit 0), .bx (.lit false)])
 (.ret [.var 4, .ex (.conv .i64 (.bin .sub .u64 (.var 5) (.lit 1))), .bx (.lit true)]))))))
theorem rQLastG : runCtr (cx Try.prog ctsQ) 20 cQLastG [] [] = tQLastG := by kernel_rfl

def tQFillL0 : Tree := (.br (.cmp .lss (.var 4) (.var 2))
 (.call 1 [.var 3, .ex (.bin .add .i64 (.var 1) (.var 4)), .ex (.lit 0)] (.back 0 3 [.var 5, .ex (.bin .add .i64 (.var 4) (.lit 1))]))
 (.ret [.var 3]))
def tQFill : Tree := (.br (.cmp .lss (.var 2) (.lit 1))
 (.ret [.var 0])
 (.br (.cmp .gtr (.var 2) (.lit 32))
 (.ret [.var 0])
 (.loop 0 3 [.var 0, .ex (.lit 0)] tQFillL0)))
theorem rQFill : runCtr (cxQ Try.prog) 20 cQFill [] [] = tQFill := by kernel_rfl

end Go.Proofs.Ytjohihkbampbgaa
