/- The ways of the runs, as a program of ours printed them. -/
import Derived.Test.YtbmbiiiacajolaaGreatWx
import Derived.KernelRfl
namespace Go.Proofs.YtbmbiiiacajolaaGreat
set_option linter.unusedVariables false
set_option linter.unusedSimpArgs false
set_option linter.unusedSectionVars false
open Go
set_option maxRecDepth 100000

def tGR : Tree := (.and (.br (.cmp .lss (.bin .sub .i64 (.conv .i64 (.bin .and .u64 (.bin .shr .u64 (.var 0) (.lit 0)) (.lit 65535))) (.lit 1)) (.lit (-1)))
 (.ret [.ex (.lit 0), .ex (.lit 0), .bx (.lit false), .ex (.lit 5)])
 (.br (.cmp .gtr (.bin .sub .i64 (.conv .i64 (.bin .and .u64 (.bin .shr .u64 (.var 0) (.lit 0)) (.lit 65535))) (.lit 1)) (.lit 65534))
 (.ret [.ex (.lit 0), .ex (.lit 0), .bx (.lit false), .ex (.lit 5)])
 (.br (.cmp .lss (.conv .i64 (.bin .and .u64 (.bin .shr .u64 (.var 0) (.lit 16)) (.lit 4294967295))) (.lit 0))
 (.ret [.ex (.lit 0), .ex (.lit 0), .bx (.lit false), .ex (.lit 5)])
 (.br (.cmp .gtr (.conv .i64 (.bin .and .u64 (.bin .shr .u64 (.var 0) (.lit 16)) (.lit 4294967295))) (.lit 4294967295))
 (.ret [.ex (.lit 0), .ex (.lit 0), .bx (.lit false), .ex (.lit 5)])
 (.br (.cmp .eql (.bin .sub .i64 (.conv .i64 (.bin .and .u64 (.bin .shr .u64 (.var 0) (.lit 0)) (.lit 65535))) (.lit 1)) (.lit (-1)))
 (.br (.cmp .eql (.conv .i64 (.bin .and .u64 (.bin .shr .u64 (.var 0) (.lit 16)) (.lit 4294967295))) (.lit 0))
 (.and (.and (.and (.and (.and (.br (.cmp .eql (.bin .shr .u64 (.var 0) (.lit 63)) (.lit 1))
 (.br (.cmp .eql (.bin .or .u64 (.bin .or .u64 (.bin .or .u64 (.lit 0) (.bin .shl .u64 (.conv .u64 (.bin .add .i64 (.bin .sub .i64 (.conv .i64 (.bin .and .u64 (.bin .shr .u64 (.var 0) (.lit 0)) (.lit 65535))) (.lit 1)) (.lit 1))) (.lit 0))) (.bin .shl .u64 (.conv .u64 (.conv .i64 (.bin .and .u64 (.bin .shr .u64 (.var 0) (.lit 16)) (.lit 4294967295)))) (.lit 16))) (.lit 9223372036854775808)) (.var 0))
 (.ret [.ex (.bin .sub .i64 (.conv .i64 (.bin .and .u64 (.bin .shr .u64 (.var 0) (.lit 0)) (.lit 65535))) (.lit 1)), .ex (.conv .i64 (.bin .and .u64 (.bin .shr .u64 (.var 0) (.lit 16)) (.lit 4294967295))), .bx (.cmp .eql (.bin .shr .u64 (.var 0) (.lit 63)) (.lit 1)), .ex (.lit 0)])
 (.ret [.ex (.lit 0), .ex (.lit 0), .bx (.lit false), .ex (.lit 5)]))
 (.br (.cmp .eql (.bin .andNot .u64 (.bin .or .u64 (.bin .or .u64 (.lit 0) (.bin .shl .u64 (.conv .u64 (.bin .add .i64 (.bin .sub .i64 (.conv .i64 (.bin .and .u64 (.bin .shr .u64 (.var 0) (.lit 0)) (.lit 65535))) (.lit 1)) (.lit 1))) (.lit 0))) (.bin .shl .u64 (.conv .u64 (.conv .i64 (.bin .and .u64 (.bin .shr .u64 (.var 0) (.lit 16)) (.lit 4294967295)))) (.lit 16))) (.lit 9223372036854775808)) (.var 0))
 (.ret [.ex (.bin .sub .i64 (.conv .i64 (.bin .and .u64 (.bin .shr .u64 (.var 0) (.lit 0)) (.lit 65535))) (.lit 1)), .ex (.conv .i64 (.bin .and .u64 (.bin .shr .u64 (.var 0) (.lit 16)) (.lit 4294967295))), .bx (.cmp .eql (.bin .shr .u64 (.var 0) (.lit 63)) (.lit 1)), .ex (.lit 0)])
 (.ret [.ex (.lit 0), .ex (.lit 0), .bx (.lit false), .ex (.lit 5)]))) .ok) .ok) .ok) .ok) .ok)
 (.ret [.ex (.lit 0), .ex (.lit 0), .bx (.lit false), .ex (.lit 5)]))
 (.and (.and (.and (.and (.and (.br (.cmp .eql (.bin .shr .u64 (.var 0) (.lit 63)) (.lit 1))
 (.br (.cmp .eql (.bin .or .u64 (.bin .or .u64 (.bin .or .u64 (.lit 0) (.bin .shl .u64 (.conv .u64 (.bin .add .i64 (.bin .sub .i64 (.conv .i64 (.bin .and .u64 (.bin .shr .u64 (.var 0) (.lit 0)) (.lit 65535))) (.lit 1)) (.lit 1))) (.lit 0))) (.bin .shl .u64 (.conv .u64 (.conv .i64 (.bin .and .u64 (.bin .shr .u64 (.var 0) (.lit 16)) (.lit 4294967295)))) (.lit 16))) (.lit 9223372036854775808)) (.var 0))
 (.ret [.ex (.bin .sub .i64 (.conv .i64 (.bin .and .u64 (.bin .shr .u64 (.var 0) (.lit 0)) (.lit 65535))) (.lit 1)), .ex (.conv .i64 (.bin .and .u64 (.bin .shr .u64 (.var 0) (.lit 16)) (.lit 4294967295))), .bx (.cmp .eql (.bin .shr .u64 (.var 0) (.lit 63)) (.lit 1)), .ex (.lit 0)])
 (.ret [.ex (.lit 0), .ex (.lit 0), .bx (.lit false), .ex (.lit 5)]))
 (.br (.cmp .eql (.bin .andNot .u64 (.bin .or .u64 (.bin .or .u64 (.lit 0) (.bin .shl .u64 (.conv .u64 (.bin .add .i64 (.bin .sub .i64 (.conv .i64 (.bin .and .u64 (.bin .shr .u64 (.var 0) (.lit 0)) (.lit 65535))) (.lit 1)) (.lit 1))) (.lit 0))) (.bin .shl .u64 (.conv .u64 (.conv .i64 (.bin .and .u64 (.bin .shr .u64 (.var 0) (.lit 16)) (.lit 4294967295)))) (.lit 16))) (.lit 9223372036854775808)) (.var 0))
 (.ret [.ex (.bin .sub .i64 (.conv .i64 (.bin .and .u64 (.bin .shr .u64 (.var 0) (.lit 0)) (.lit 65535))) (.lit 1)), .ex (.conv .i64 (.bin .and .u64 (.bin .shr .u64 (.var 0) (.lit 16)) (.lit 4294967295))), .bx (.cmp .eql (.bin .shr .u64 (.var 0) (.lit 63)) (.lit 1)), .ex (.lit 0)])
 (.ret [.ex (.lit 0), .ex (.lit 0), .bx (.lit false), .ex (.lit 5)]))) .ok) .ok) .ok) .ok) .ok))))))
 (.and (.and (.and (.and (.and .ok .ok) .ok)
 (.and (.and (.and .ok .ok) .ok) .ok))
 (.and (.and (.and (.and .ok .ok) .ok) .ok) .ok))
 (.and (.and (.and (.and (.and .ok .ok) .ok) .ok) .ok) .ok)))
theorem rGR : runCtr (cxJ Tryz.prog []) 40 cGetRef [] [] = tGR := by kernel_rfl

def tQGR : Tree := (.br (.cmp .geq (.bin .sub .i64 (.conv .i64 (.bin .and .u64 (.bin .shr .u64 (.var 0) (.lit 0)) (.lit 65535))) (.lit 1)) (.lit (-1)))
 (.br (.cmp .leq (.bin .sub .i64 (.conv .i64 (.bin .and .u64 (.bin .shr .u64 (.var 0) (.lit 0)) (.lit 65535))) (.lit 1)) (.lit 65534))
 (.br (.cmp .geq (.conv .i64 (.bin .and .u64 (.bin .shr .u64 (.var 0) (.lit 16)) (.lit 4294967295))) (.lit 0))
 (.br (.cmp .leq (.conv .i64 (.bin .and .u64 (.bin .shr .u64 (.var 0) (.lit 16)) (.lit 4294967295))) (.lit 4294967295))
 (.br (.cmp .lss (.bin .sub .i64 (.conv .i64 (.bin .and .u64 (.bin .shr .u64 (.var 0) (.lit 0)) (.lit 65535))) (.lit 1)) (.lit 0))
 (.br (.cmp .eql (.conv .i64 (.bin .and .u64 (.bin .shr .u64 (.var 0) (.lit 16)) (.lit 4294967295))) (.lit 0))
 (.br (.cmp .eql (.bin .shr .u64 (.var 0) (.lit 63)) (.lit 1))
 (.br (.cmp .eql (.bin .or .u64 (.bin .and .u64 (.bin .or .u64 (.conv .u64 (.bin .add .i64 (.bin .sub .i64 (.conv .i64 (.bin .and .u64 (.bin .shr .u64 (.var 0) (.lit 0)) (.lit 65535))) (.lit 1)) (.lit 1))) (.bin .shl .u64 (.conv .u64 (.conv .i64 (.bin .and .u64 (.bin .shr .u64 (.var 0) (.lit 16)) (.lit 4294967295)))) (.lit 16))) (.lit 9223372036854775807)) (.lit 9223372036854775808)) (.var 0))
 (.ret [.ex (.bin .sub .i64 (.conv .i64 (.bin .and .u64 (.bin .shr .u64 (.var 0) (.lit 0)) (.lit 65535))) (.lit 1)), .ex (.conv .i64 (.bin .and .u64 (.bin .shr .u64 (.var 0) (.lit 16)) (.lit 4294967295))), .bx (.cmp .eql (.bin .shr .u64 (.var 0) (.lit 63)) (.lit 1)), .ex (.lit 0)])
 (.ret [.ex (.lit 0), .ex (.lit 0), .bx (.lit false), .ex (.lit 5)]))
 (.br (.cmp .eql (.bin .and .u64 (.bin .or .u64 (.conv .u64 (.bin .add .i64 (.bin .sub .i64 (.conv .i64 (.bin .and .u64 (.bin .shr .u64 (.var 0) (.lit 0)) (.lit 65535))) (.lit 1)) (.lit 1))) (.bin .shl .u64 (.conv .u64 (.conv .i64 (.bin .and .u64 (.bin .shr .u64 (.var 0) (.lit 16)) (.lit 4294967295)))) (.lit 16))) (.lit 9223372036854775807)) (.var 0))
 (.ret [.ex (.bin .sub .i64 (.conv .i64 (.bin .and .u64 (.bin .shr .u64 (.var 0) (.lit 0)) (.lit 65535))) (.lit 1)), .ex (.conv .i64 (.bin .and .u64 (.bin .shr .u64 (.var 0) (.lit 16)) (.lit 4294967295))), .bx (.cmp .eql (.bin .shr .u64 (.var 0) (.lit 63)) (.lit 1)), .ex (.lit 0)])
 (.ret [.ex (.lit 0), .ex (.lit 0), .bx (.lit false), .ex (.lit 5)])))
 (.ret [.ex (.lit 0), .ex (.lit 0), .bx (.lit false), .ex (.lit 5)]))
 (.br (.cmp .eql (.bin .shr .u64 (.var 0) (.lit 63)) (.lit 1))
 (.br (.cmp .eql (.bin .or .u64 (.bin .and .u64 (.bin .or .u64 (.conv .u64 (.bin .add .i64 (.bin .sub .i64 (.conv .i64 (.bin .and .u64 (.bin .shr .u64 (.var 0) (.lit 0)) (.lit 65535))) (.lit 1)) (.lit 1))) (.bin .shl .u64 (.conv .u64 (.conv .i64 (.bin .and .u64 (.bin .shr .u64 (.var 0) (.lit 16)) (.lit 4294967295)))) (.lit 16))) (.lit 9223372036854775807)) (.lit 9223372036854775808)) (.var 0))
 (.ret [.ex (.bin .sub .i64 (.conv .i64 (.bin .and .u64 (.bin .shr .u64 (.var 0) (.lit 0)) (.lit 65535))) (.lit 1)), .ex (.conv .i64 (.bin .and .u64 (.bin .shr .u64 (.var 0) (.lit 16)) (.lit 4294967295))), .bx (.cmp .eql (.bin .shr .u64 (.var 0) (.lit 63)) (.lit 1)), .ex (.lit 0)])
 (.ret [.ex (.lit 0), .ex (.lit 0), .bx (.lit false), .ex (.lit 5)]))
 (.br (.cmp .eql (.bin .and .u64 (.bin .or .u64 (.conv .u64 (.bin .add .i64 (.bin .sub .i64 (.conv .i64 (.bin .and .u64 (.bin .shr .u64 (.var 0) (.lit 0)) (.lit 65535))) (.lit 1)) (.lit 1))) (.bin .shl .u64 (.conv .u64 (.conv .i64 (.bin .and .u64 (.bin .shr .u64 (.var 0) (.lit 16)) (.lit 4294967295)))) (.lit 16))) (.lit 9223372036854775807)) (.var 0))
 (.ret [.ex (.bin .sub .i64 (.conv .i64 (.bin .and .u64 (.bin .shr .u64 (.var 0) (.lit 0)) (.lit 65535))) (.lit 1)), .ex (.conv .i64 (.bin .and .u64 (.bin .shr .u64 (.var 0) (.lit 16)) (.lit 4294967295))), .bx (.cmp .eql (.bin .shr .u64 (.var 0) (.lit 63)) (.lit 1)), .ex (.lit 0)])
 (.ret [.ex (.lit 0), .ex (.lit 0), .bx (.lit false), .ex (.lit 5)]))))
 (.ret [.ex (.lit 0), .ex (.lit 0), .bx (.lit false), .ex (.lit 5)]))
 (.ret [.ex (.lit 0), .ex (.lit 0), .bx (.lit false), .ex (.lit 5)]))
 (.ret [.ex (.lit 0), .ex (.lit 0), .bx (.lit false), .ex (.lit 5)]))
 (.ret [.ex (.lit 0), .ex (.lit 0), .bx (.lit false), .ex (.lit 5)]))
theorem rQGR : runCtr (cxJ Tryz.prog []) 40 cRGetRef [] [] = tQGR := by kernel_rfl

end Go.Proofs.YtbmbiiiacajolaaGreat
