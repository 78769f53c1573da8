/- The ways of the runs, as a program of ours printed them. -/
import Derived.Test.YtbkaclkbjpdfnaaCr
import Derived.KernelRfl
namespace Go.Proofs.Ytbkaclkbjpdfnaa
set_option linter.unusedVariables false
set_option linter.unusedSimpArgs false
set_option linter.unusedSectionVars false
open Go
set_option maxRecDepth 100000

def tRLoad : Tree := (.br (.cmp .lss (.var 8) (.lit 0))
 (.ret [.var 0, .ex (.lit 1), .ex (.var 8), .ex (.lit 0), .ex (.lit 0), .bx (.lit false), .ex (.bin .add .i64 (.var 7) (.lit 1)), .ex (.lit 0)])
 (.need (.cmp .leq (.lit 0) (.var 1)) (.br (.cmp .geq (.var 8) (.var 1))
 (.ret [.var 0, .ex (.lit 1), .ex (.var 8), .ex (.lit 0), .ex (.lit 0), .bx (.lit false), .ex (.bin .add .i64 (.var 7) (.lit 1)), .ex (.lit 0)])
 (.need (.cmp .leq (.lit 0) (.var 8)) (.need (.cmp .lss (.var 8) (.var 1)) (.need (.cmp .lss (.var 8) (.len 0)) (.need (.cmp .leq (.lit 0) (.var 8)) (.need (.cmp .lss (.var 8) (.len 0)) (.need (.cmp .leq (.lit 0) (.var 8)) (.need (.cmp .lss (.var 8) (.var 1)) (.need (.cmp .lss (.var 8) (.len 0)) (.need (.cmp .leq (.lit 0) (.var 8)) (.need (.cmp .lss (.var 8) (.len 0)) (.ret [.var 0, .ex (.lit 1), .ex (.var 8), .ex (.nth 0 (.var 8)), .ex (.nth 0 (.var 8)), .bx (.lit false), .ex (.bin .add .i64 (.var 7) (.lit 1)), .ex (.nth 0 (.var 8))]))))))))))))))
theorem rRLoad : runCtr (cx Try.prog []) 20 cRLoad [] [] = tRLoad := by kernel_rfl

def tRStore : Tree := (.br (.cmp .lss (.var 8) (.lit 0))
 (.ret [.var 0, .ex (.lit 2), .ex (.var 8), .ex (.lit 0), .ex (.lit 0), .bx (.lit false), .ex (.bin .add .i64 (.var 7) (.lit 1))])
 (.need (.cmp .leq (.lit 0) (.var 1)) (.br (.cmp .geq (.var 8) (.var 1))
 (.ret [.var 0, .ex (.lit 2), .ex (.var 8), .ex (.lit 0), .ex (.lit 0), .bx (.lit false), .ex (.bin .add .i64 (.var 7) (.lit 1))])
 (.need (.cmp .leq (.lit 0) (.var 8)) (.need (.cmp .lss (.var 8) (.var 1)) (.need (.cmp .lss (.var 8) (.len 0)) (.need (.cmp .leq (.lit 0) (.var 8)) (.need (.cmp .lss (.var 8) (.len 0)) (.need (.cmp .leq (.lit 0) (.var 8)) (.need (.cmp .lss (.var 8) (.var 1)) (.need (.cmp .lss (.var 8) (.len 0)) (.need (.cmp .leq (.lit 0) (.var 8)) (.need (.cmp .lss (.var 8) (.len 0)) (.ext (.setl 0 (.var 8) (.var 9)) (.need (.cmp .leq (.lit 0) (.var 8)) (.need (.cmp .lss (.var 8) (.var 1)) (.need (.cmp .lss (.var 8) (.len 10)) (.need (.cmp .leq (.lit 0) (.var 8)) (.need (.cmp .lss (.var 8) (.len 10)) (.ret [.var 10, .ex (.lit 2), .ex (.var 8), .ex (.nth 0 (.var 8)), .ex (.nth 10 (.var 8)), .bx (.lit true), .ex (.bin .add .i64 (.var 7) (.lit 1))]))))))))))))))))))))
theorem rRStore : runCtr (cx Try.prog []) 20 cRStore [] [] = tRStore := by kernel_rfl

def tRCAS : Tree := (.br (.cmp .lss (.var 8) (.lit 0))
 (.br (.cmp .lss (.var 8) (.lit 0))
 (.ret [.var 0, .ex (.lit 3), .ex (.var 8), .ex (.lit 0), .ex (.lit 0), .bx (.lit false), .ex (.bin .add .i64 (.var 7) (.lit 1)), .bx (.lit false)])
 (.need (.cmp .leq (.lit 0) (.var 1)) (.br (.cmp .geq (.var 8) (.var 1))
 (.ret [.var 0, .ex (.lit 3), .ex (.var 8), .ex (.lit 0), .ex (.lit 0), .bx (.lit false), .ex (.bin .add .i64 (.var 7) (.lit 1)), .bx (.lit false)])
 (.need (.cmp .leq (.lit 0) (.var 8)) (.need (.cmp .lss (.var 8) (.var 1)) (.need (.cmp .lss (.var 8) (.len 0)) (.need (.cmp .leq (.lit 0) (.var 8)) (.need (.cmp .lss (.var 8) (.len 0)) (.br (.cmp .eql (.lit 0) (.var 9))
 (.need (.cmp .leq (.lit 0) (.var 8)) (.need (.cmp .lss (.var 8) (.var 1)) (.need (.cmp .lss (.var 8) (.len 0)) (.need (.cmp .leq (.lit 0) (.var 8)) (.need (.cmp .lss (.var 8) (.len 0)) (.ext (.setl 0 (.var 8) (.var 10)) (.need (.cmp .leq (.lit 0) (.var 8)) (.need (.cmp .lss (.var 8) (.var 1)) (.need (.cmp .lss (.var 8) (.len 11)) (.need (.cmp .leq (.lit 0) (.var 8)) (.need (.cmp .lss (.var 8) (.len 11)) (.ret [.var 11, .ex (.lit 3), .ex (.var 8), .ex (.nth 0 (.var 8)), .ex (.nth 11 (.var 8)), .bx (.cmp .eql (.lit 0) (.var 9)), .ex (.bin .add .i64 (.var 7) (.lit 1)), .bx (.cmp .eql (.lit 0) (.var 9))]))))))))))))
 (.need (.cmp .leq (.lit 0) (.var 8)) (.need (.cmp .lss (.var 8) (.var 1)) (.need (.cmp .lss (.var 8) (.len 0)) (.need (.cmp .leq (.lit 0) (.var 8)) (.need (.cmp .lss (.var 8) (.len 0)) (.ret [.var 0, .ex (.lit 3), .ex (.var 8), .ex (.nth 0 (.var 8)), .ex (.nth 0 (.var 8)), .bx (.cmp .eql (.lit 0) (.var 9)), .ex (.bin .add .i64 (.var 7) (.lit 1)), .bx (.cmp .eql (.lit 0) (.var 9))])))))))))))))))
 (.need (.cmp .leq (.lit 0) (.var 1)) (.br (.cmp .geq (.var 8) (.var 1))
 (.br (.cmp .lss (.var 8) (.lit 0))
 (.ret [.var 0, .ex (.lit 3), .ex (.var 8), .ex (.lit 0), .ex (.lit 0), .bx (.lit false), .ex (.bin .add .i64 (.var 7) (.lit 1)), .bx (.lit false)])
 (.need (.cmp .leq (.lit 0) (.var 1)) (.br (.cmp .geq (.var 8) (.var 1))
 (.ret [.var 0, .ex (.lit 3), .ex (.var 8), .ex (.lit 0), .ex (.lit 0), .bx (.lit false), .ex (.bin .add .i64 (.var 7) (.lit 1)), .bx (.lit false)])
 (.need (.cmp .leq (.lit 0) (.var 8)) (.need (.cmp .lss (.var 8) (.var 1)) (.need (.cmp .lss (.var 8) (.len 0)) (.need (.cmp .leq (.lit 0) (.var 8)) (.need (.cmp .lss (.var 8) (.len 0)) (.br (.cmp .eql (.lit 0) (.var 9))
 (.need (.cmp .leq (.lit 0) (.var 8)) (.need (.cmp .lss (.var 8) (.var 1)) (.need (.cmp .lss (.var 8) (.len 0)) (.need (.cmp .leq (.lit 0) (.var 8)) (.need (.cmp .lss (.var 8) (.len 0)) (.ext (.setl 0 (.var 8) (.var 10)) (.need (.cmp .leq (.lit 0) (.var 8)) (.need (.cmp .lss (.var 8) (.var 1)) (.need (.cmp .lss (.var 8) (.len 11)) (.need (.cmp .leq (.lit 0) (.var 8)) (.need (.cmp .lss (.var 8) (.len 11)) (.ret [.var 11, .ex (.lit 3), .ex (.var 8), .ex (.nth 0 (.var 8)), .ex (.nth 11 (.var 8)), .bx (.cmp .eql (.lit 0) (.var 9)), .ex (.bin .add .i64 (.var 7) (.lit 1)), .bx (.cmp .eql (.lit 0) (.var 9))]))))))))))))
 (.need (.cmp .leq (.lit 0) (.var 8)) (.need (.cmp .lss (.var 8) (.var 1)) (.need (.cmp .lss (.var 8) (.len 0)) (.need (.cmp .leq (.lit 0) (.var 8)) (.need (.cmp .lss (.var 8) (.len 0)) (.ret [.var 0, .ex (.lit 3), .ex (.var 8), .ex (.nth 0 (.var 8)), .ex (.nth 0 (.var 8)), .bx (.cmp .eql (.lit 0) (.var 9)), .ex (.bin .add .i64 (.var 7) (.lit 1)), .bx (.cmp .eql (.lit 0) (.var 9))])))))))))))))))
 (.need (.cmp .leq (.lit 0) (.var 8)) (.need (.cmp .lss (.var 8) (.var 1)) (.need (.cmp .lss (.var 8) (.len 0)) (.need (.cmp .leq (.lit 0) (.var 8)) (.need (.cmp .lss (.var 8) (.len 0)) (.br (.cmp .lss (.var 8) (.lit 0))
 (.ret [.var 0, .ex (.lit 3), .ex (.var 8), .ex (.lit 0), .ex (.lit 0), .bx (.lit false), .ex (.bin .add .i64 (.var 7) (.lit 1)), .bx (.lit false)])
 (.need (.cmp .leq (.lit 0) (.var 1)) (.br (.cmp .geq (.var 8) (.var 1))
 (.ret [.var 0, .ex (.lit 3), .ex (.var 8), .ex (.lit 0), .ex (.lit 0), .bx (.lit false), .ex (.bin .add .i64 (.var 7) (.lit 1)), .bx (.lit false)])
 (.need (.cmp .leq (.lit 0) (.var 8)) (.need (.cmp .lss (.var 8) (.var 1)) (.need (.cmp .lss (.var 8) (.len 0)) (.need (.cmp .leq (.lit 0) (.var 8)) (.need (.cmp .lss (.var 8) (.len 0)) (.br (.cmp .eql (.nth 0 (.var 8)) (.var 9))
 (.need (.cmp .leq (.lit 0) (.var 8)) (.need (.cmp .lss (.var 8) (.var 1)) (.need (.cmp .lss (.var 8) (.len 0)) (.need (.cmp .leq (.lit 0) (.var 8)) (.need (.cmp .lss (.var 8) (.len 0)) (.ext (.setl 0 (.var 8) (.var 10)) (.need (.cmp .leq (.lit 0) (.var 8)) (.need (.cmp .lss (.var 8) (.var 1)) (.need (.cmp .lss (.var 8) (.len 11)) (.need (.cmp .leq (.lit 0) (.var 8)) (.need (.cmp .lss (.var 8) (.len 11)) (.ret [.var 11, .ex (.lit 3), .ex (.var 8), .ex (.nth 0 (.var 8)), .ex (.nth 11 (.var 8)), .bx (.cmp .eql (.nth 0 (.var 8)) (.var 9)), .ex (.bin .add .i64 (.var 7) (.lit 1)), .bx (.cmp .eql (.nth 0 (.var 8)) (.var 9))]))))))))))))
 (.need (.cmp .leq (.lit 0) (.var 8)) (.need (.cmp .lss (.var 8) (.var 1)) (.need (.cmp .lss (.var 8) (.len 0)) (.need (.cmp .leq (.lit 0) (.var 8)) (.need (.cmp .lss (.var 8) (.len 0)) (.ret [.var 0, .ex (.lit 3), .ex (.var 8), .ex (.nth 0 (.var 8)), .ex (.nth 0 (.var 8)), .bx (.cmp .eql (.nth 0 (.var 8)) (.var 9)), .ex (.bin .add .i64 (.var 7) (.lit 1)), .bx (.cmp .eql (.nth 0 (.var 8)) (.var 9))])))))))))))))))))))))))
theorem rRCAS : runCtr (cx Try.prog []) 20 cRCAS [] [] = tRCAS := by kernel_rfl

def tRAdd : Tree := (.br (.cmp .lss (.var 8) (.lit 0))
 (.br (.cmp .lss (.var 8) (.lit 0))
 (.ret [.var 0, .ex (.lit 4), .ex (.var 8), .ex (.lit 0), .ex (.lit 0), .bx (.lit false), .ex (.bin .add .i64 (.var 7) (.lit 1)), .ex (.lit 0)])
 (.need (.cmp .leq (.lit 0) (.var 1)) (.br (.cmp .geq (.var 8) (.var 1))
 (.ret [.var 0, .ex (.lit 4), .ex (.var 8), .ex (.lit 0), .ex (.lit 0), .bx (.lit false), .ex (.bin .add .i64 (.var 7) (.lit 1)), .ex (.lit 0)])
 (.need (.cmp .leq (.lit 0) (.var 8)) (.need (.cmp .lss (.var 8) (.var 1)) (.need (.cmp .lss (.var 8) (.len 0)) (.need (.cmp .leq (.lit 0) (.var 8)) (.need (.cmp .lss (.var 8) (.len 0)) (.need (.cmp .leq (.lit 0) (.var 8)) (.need (.cmp .lss (.var 8) (.var 1)) (.need (.cmp .lss (.var 8) (.len 0)) (.need (.cmp .leq (.lit 0) (.var 8)) (.need (.cmp .lss (.var 8) (.len 0)) (.ext (.setl 0 (.var 8) (.bin .add .u64 (.lit 0) (.var 9))) (.need (.cmp .leq (.lit 0) (.var 8)) (.need (.cmp .lss (.var 8) (.var 1)) (.need (.cmp .lss (.var 8) (.len 10)) (.need (.cmp .leq (.lit 0) (.var 8)) (.need (.cmp .lss (.var 8) (.len 10)) (.ret [.var 10, .ex (.lit 4), .ex (.var 8), .ex (.nth 0 (.var 8)), .ex (.nth 10 (.var 8)), .bx (.lit true), .ex (.bin .add .i64 (.var 7) (.lit 1)), .ex (.nth 10 (.var 8))]))))))))))))))))))))
 (.need (.cmp .leq (.lit 0) (.var 1)) (.br (.cmp .geq (.var 8) (.var 1))
 (.br (.cmp .lss (.var 8) (.lit 0))
 (.ret [.var 0, .ex (.lit 4), .ex (.var 8), .ex (.lit 0), .ex (.lit 0), .bx (.lit false), .ex (.bin .add .i64 (.var 7) (.lit 1)), .ex (.lit 0)])
 (.need (.cmp .leq (.lit 0) (.var 1)) (.br (.cmp .geq (.var 8) (.var 1))
 (.ret [.var 0, .ex (.lit 4), .ex (.var 8), .ex (.lit 0), .ex (.lit 0), .bx (.lit false), .ex (.bin .add .i64 (.var 7) (.lit 1)), .ex (.lit 0)])
 (.need (.cmp .leq (.lit 0) (.var 8)) (.need (.cmp .lss (.var 8) (.var 1)) (.need (.cmp .lss (.var 8) (.len 0)) (.need (.cmp .leq (.lit 0) (.var 8)) (.need (.cmp .lss (.var 8) (.len 0)) (.need (.cmp .leq (.lit 0) (.var 8)) (.need (.cmp .lss (.var 8) (.var 1)) (.need (.cmp .lss (.var 8) (.len 0)) (.need (.cmp .leq (.lit 0) (.var 8)) (.need (.cmp .lss (.var 8) (.len 0)) (.ext (.setl 0 (.var 8) (.bin .add .u64 (.lit 0) (.var 9))) (.need (.cmp .leq (.lit 0) (.var 8)) (.need (.cmp .lss (.var 8) (.var 1)) (.need (.cmp .lss (.var 8) (.len 10)) (.need (.cmp .leq (.lit 0) (.var 8)) (.need (.cmp .lss (.var 8) (.len 10)) (.ret [.var 10, .ex (.lit 4), .ex (.var 8), .ex (.nth 0 (.var 8)), .ex (.nth 10 (.var 8)), .bx (.lit true), .ex (.bin .add .i64 (.var 7) (.lit 1)), .ex (.nth 10 (.var 8))]))))))))))))))))))))
 (.need (.cmp .leq (.lit 0) (.var 8)) (.need (.cmp .lss (.var 8) (.var 1)) (.need (.cmp .lss (.var 8) (.len 0)) (.need (.cmp .leq (.lit 0) (.var 8)) (.need (.cmp .lss (.var 8) (.len 0)) (.br (.cmp .lss (.var 8) (.lit 0))
 (.ret [.var 0, .ex (.lit 4), .ex (.var 8), .ex (.lit 0), .ex (.lit 0), .bx (.lit false), .ex (.bin .add .i64 (.var 7) (.lit 1)), .ex (.lit 0)])
 (.need (.cmp .leq (.lit 0) (.var 1)) (.br (.cmp .geq (.var 8) (.var 1))
 (.ret [.var 0, .ex (.lit 4), .ex (.var 8), .ex (.lit 0), .ex (.lit 0), .bx (.lit false), .ex (.bin .add .i64 (.var 7) (.lit 1)), .ex (.lit 0)])
 (.need (.cmp .leq (.lit 0) (.var 8)) (.need (.cmp .lss (.var 8) (.var 1)) (.need (.cmp .lss (.var 8) (.len 0)) (.need (.cmp .leq (.lit 0) (.var 8)) (.need (.cmp .lss (.var 8) (.len 0)) (.need (.cmp .leq (.lit 0) (.var 8)) (.need (.cmp .lss (.var 8) (.var 1)) (.need (.cmp .lss (.var 8) (.len 0)) (.need (.cmp .leq (.lit 0) (.var 8)) (.need (.cmp .lss (.var 8) (.len 0)) (.ext (.setl 0 (.var 8) (.bin .add .u64 (.nth 0 (.var 8)) (.var 9))) (.need (.cmp .leq (.lit 0) (.var 8)) (.need (.cmp .lss (.var 8) (.var 1)) (.need (.cmp .lss (.var 8) (.len 10)) (.need (.cmp .leq (.lit 0) (.var 8)) (.need (.cmp .lss (.var 8) (.len 10)) (.ret [.var 10, .ex (.lit 4), .ex (.var 8), .ex (.nth 0 (.var 8)), .ex (.nth 10 (.var 8)), .bx (.lit true), .ex (.bin .add .i64 (.var 7) (.lit 1)), .ex (.nth 10 (.var 8))]))))))))))))))))))))))))))))
theorem rRAdd : runCtr (cx Try.prog []) 20 cRAdd [] [] = tRAdd := by kernel_rfl

end Go.Proofs.Ytbkaclkbjpdfnaa
