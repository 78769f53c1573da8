/- The ways of the runs, as a program of ours printed them. -/
import Derived.Test.YtbmbiiiacajolaaGreatTd
import Derived.KernelRfl
namespace Go.Proofs.YtbmbiiiacajolaaGreat
set_option linter.unusedVariables false
set_option linter.unusedSimpArgs false
set_option linter.unusedSectionVars false
open Go
set_option maxRecDepth 100000

def tAt : Tree := (.br (.cmp .geq (.var 2) (.lit 1))
 (.br (.cmp .leq (.var 2) (.lit 4))
 (.br (.cmp .geq (.var 5) (.lit 1))
 (.br (.cmp .leq (.var 5) (.lit 128))
 (.br (.cmp .geq (.var 0) (.lit 0))
 (.br (.cmp .lss (.var 0) (.lit 4096))
 (.br (.cmp .geq (.var 1) (.lit 0))
 (.br (.cmp .lss (.var 1) (.lit 4096))
 (.br (.cmp .eql (.var 13) (.lit (-1)))
 (.br (.cmp .lss (.var 14) (.lit 4))
 (.ret [.ex (.lit (-1))])
 (.br (.cmp .geq (.var 14) (.bin .add .i64 (.lit 4) (.var 2)))
 (.ret [.ex (.lit (-1))])
 (.br (.cmp .lss (.bin .sub .i64 (.var 14) (.lit 4)) (.lit 0))
 (.ret [.ex (.lit (-1))])
 (.br (.cmp .geq (.bin .sub .i64 (.var 14) (.lit 4)) (.var 2))
 (.ret [.ex (.lit (-1))])
 (.and (.ret [.ex (.bin .add .i64 (.bin .add .i64 (.var 1) (.bin .mul .i64 (.lit 0) (.var 2))) (.bin .sub .i64 (.var 14) (.lit 4)))]) .ok)))))
 (.br (.cmp .lss (.var 13) (.lit 0))
 (.ret [.ex (.lit (-1))])
 (.br (.cmp .geq (.var 13) (.var 5))
 (.ret [.ex (.lit (-1))])
 (.br (.cmp .lss (.var 14) (.lit 0))
 (.ret [.ex (.lit (-1))])
 (.br (.cmp .geq (.var 14) (.bin .add .i64 (.lit 4) (.var 2)))
 (.ret [.ex (.lit (-1))])
 (.and (.ret [.ex (.bin .add .i64 (.bin .add .i64 (.var 0) (.bin .mul .i64 (.var 13) (.bin .add .i64 (.lit 4) (.var 2)))) (.var 14))]) .ok))))))
 (.ret [.ex (.lit (-1))]))
 (.ret [.ex (.lit (-1))]))
 (.ret [.ex (.lit (-1))]))
 (.ret [.ex (.lit (-1))]))
 (.ret [.ex (.lit (-1))]))
 (.ret [.ex (.lit (-1))]))
 (.ret [.ex (.lit (-1))]))
 (.ret [.ex (.lit (-1))]))
theorem rAt : runCtr (cx Tryz.prog []) 40 cAt [] [] = tAt := by kernel_rfl

def tRAt : Tree := (.br (.cmp .geq (.var 2) (.lit 1))
 (.br (.cmp .leq (.var 2) (.lit 4))
 (.br (.cmp .geq (.var 5) (.lit 1))
 (.br (.cmp .leq (.var 5) (.lit 128))
 (.br (.cmp .geq (.var 0) (.lit 0))
 (.br (.cmp .lss (.var 0) (.lit 4096))
 (.br (.cmp .geq (.var 1) (.lit 0))
 (.br (.cmp .lss (.var 1) (.lit 4096))
 (.br (.cmp .lss (.var 13) (.lit (-1)))
 (.ret [.ex (.lit (-1))])
 (.br (.cmp .geq (.var 13) (.var 5))
 (.ret [.ex (.lit (-1))])
 (.br (.cmp .lss (.var 14) (.lit 0))
 (.ret [.ex (.lit (-1))])
 (.br (.cmp .geq (.var 14) (.bin .add .i64 (.lit 4) (.var 2)))
 (.ret [.ex (.lit (-1))])
 (.br (.cmp .lss (.var 13) (.lit 0))
 (.br (.cmp .lss (.var 14) (.lit 4))
 (.ret [.ex (.lit (-1))])
 (.ret [.ex (.bin .sub .i64 (.bin .add .i64 (.var 1) (.var 14)) (.lit 4))]))
 (.ret [.ex (.bin .add .i64 (.bin .add .i64 (.var 0) (.bin .mul .i64 (.var 13) (.bin .add .i64 (.lit 4) (.var 2)))) (.var 14))]))))))
 (.ret [.ex (.lit (-1))]))
 (.ret [.ex (.lit (-1))]))
 (.ret [.ex (.lit (-1))]))
 (.ret [.ex (.lit (-1))]))
 (.ret [.ex (.lit (-1))]))
 (.ret [.ex (.lit (-1))]))
 (.ret [.ex (.lit (-1))]))
 (.ret [.ex (.lit (-1))]))
theorem rRAt : runCtr (cx Tryz.prog []) 40 cRAt [] [] = tRAt := by kernel_rfl

end Go.Proofs.YtbmbiiiacajolaaGreat
