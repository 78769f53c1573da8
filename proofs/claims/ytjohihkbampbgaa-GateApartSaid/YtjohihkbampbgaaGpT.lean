/- The ways of the runs, as a program of ours printed them. -/
import Derived.Test.YtjohihkbampbgaaGp
import Derived.KernelRfl
namespace Go.Proofs.Ytjohihkbampbgaa
set_option linter.unusedVariables false
set_option linter.unusedSimpArgs false
set_option linter.unusedSectionVars false
open Go
set_option maxRecDepth 100000

def tPass1 : Tree := (.br (.cmp .lss (.var 1) (.lit 0))
 (.ret [.var 0, .bx (.lit false)])
 (.br (.cmp .gtr (.var 1) (.lit 1099511627776))
 (.ret [.var 0, .bx (.lit false)])
 (.br (.cmp .lss (.var 2) (.lit 0))
 (.ret [.var 0, .bx (.lit false)])
 (.br (.cmp .gtr (.var 2) (.lit 1099511627776))
 (.ret [.var 0, .bx (.lit false)])
 (.call 0 [.var 0, .ex (.lit 3)] (.and (.br (.cmp .eql (.var 4) (.lit 0))
 (.ret [.var 3, .bx (.lit false)])
 (.br (.cmp .lss (.conv .u64 (.var 2)) (.bin .sub .u64 (.var 4) (.lit 1)))
 (.ret [.var 3, .bx (.lit true)])
 (.br (.cmp .lss (.bin .sub .u64 (.conv .u64 (.var 2)) (.bin .sub .u64 (.var 4) (.lit 1))) (.conv .u64 (.var 1)))
 (.ret [.var 3, .bx (.lit true)])
 (.ret [.var 3, .bx (.lit false)])))) .ok))))))
theorem rPass1 : runCtr (cxP Try.prog) 20 cPass1 [] [] = tPass1 := by kernel_rfl

def tPass2 : Tree := (.br (.cmp .lss (.var 1) (.lit 0))
 (.ret [.var 0, .bx (.lit false)])
 (.br (.cmp .gtr (.var 1) (.lit 1099511627776))
 (.ret [.var 0, .bx (.lit false)])
 (.br (.cmp .lss (.var 2) (.lit 0))
 (.ret [.var 0, .bx (.lit false)])
 (.br (.cmp .gtr (.var 2) (.lit 1099511627776))
 (.ret [.var 0, .bx (.lit false)])
 (.call 0 [.var 0, .ex (.lit 3)] (.and (.br (.cmp .eql (.var 4) (.lit 0))
 (.and (.call 2 [.var 3, .ex (.lit 3), .ex (.var 4), .ex (.bin .add .u64 (.conv .u64 (.var 2)) (.lit 1))] (.br (.var 6)
 (.ret [.var 5, .bx (.lit true)])
 (.ret [.var 5, .bx (.lit false)]))) .ok)
 (.br (.cmp .lss (.conv .u64 (.var 2)) (.bin .sub .u64 (.var 4) (.lit 1)))
 (.ret [.var 3, .bx (.lit false)])
 (.br (.cmp .lss (.bin .sub .u64 (.conv .u64 (.var 2)) (.bin .sub .u64 (.var 4) (.lit 1))) (.conv .u64 (.var 1)))
 (.ret [.var 3, .bx (.lit false)])
 (.and (.call 2 [.var 3, .ex (.lit 3), .ex (.var 4), .ex (.bin .add .u64 (.conv .u64 (.var 2)) (.lit 1))] (.br (.var 6)
 (.ret [.var 5, .bx (.lit true)])
 (.ret [.var 5, .bx (.lit false)]))) .ok)))) .ok))))))
theorem rPass2 : runCtr (cxP Try.prog) 20 cPass2 [] [] = tPass2 := by kernel_rfl

def tLastG : Tree := (.call 6 [.var 0] (.br (.cmp .lss (.var 3) (.lit 0))
 (.ret [.var 4, .ex (.lit 0), .bx (.lit false)])
 (.br (.cmp .geq (.var 3) (.var 2))
 (.ret [.var 4, .ex (.lit 0), .bx (.lit false)])
 (.br (.cmp .lss (.bin .add .i64 (.var 1) (.var 3)) (.lit 0))
 (.ret [.var 4, .ex (.lit 0), .bx (.lit false)])
 (.need (.cmp .leq (.lit 0) (.var 6)) (.br (.cmp .geq (.bin .add .i64 (.var 1) (.var 3)) (.var 6))
 (.ret [.var 4, .ex (.lit 0), .bx (.lit false)])
 (.need (.cmp .leq (.lit 0) (.bin .add .i64 (.var 1) (.var 3))) (.need (.cmp .lss (.bin .add .i64 (.var 1) (.var 3)) (.var 6)) (.need (.cmp .lss (.bin .add .i64 (.var 1) (.var 3)) (.len 5)) (.need (.cmp .leq (.lit 0) (.bin .add .i64 (.var 1) (.var 3))) (.need (.cmp .lss (.bin .add .i64 (.var 1) (.var 3)) (.len 5)) (.br (.cmp .eql (.nth 5 (.bin .add .i64 (.var 1) (.var 3))) (.lit 0))
 (.ret [.var 4, .ex (.lit 0), .bx (.lit false)])
 (.br (.cmp .gtr (.nth 5 (.bin .add .i64 (.var 1) (.var 3))) (.lit 1099511627777))
 (.ret [.var 4, .ex (.lit 0), .bx (.lit false)])
 (.ret [.var 4, .ex (.conv .i64 (.bin .sub .u64 (.nth 5 (.bin .add .i64 (.var 1) (.var 3))) (.lit 1))), .bx (.lit true)]))))))))))))))
theorem rLastG : runCtr (cxP Try.prog) 20 cLastG [] [] = tLastG := by kernel_rfl

end Go.Proofs.Ytjohihkbampbgaa
