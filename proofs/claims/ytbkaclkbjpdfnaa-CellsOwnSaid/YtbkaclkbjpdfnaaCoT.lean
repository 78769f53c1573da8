/- The ways of the runs, as a program of ours printed them. -/
import Derived.Test.YtbkaclkbjpdfnaaCo
import Derived.KernelRfl
namespace Go.Proofs.Ytbkaclkbjpdfnaa
set_option linter.unusedVariables false
set_option linter.unusedSimpArgs false
set_option linter.unusedSectionVars false
open Go
set_option maxRecDepth 100000

def tDoes : Tree := (.br (.cmp .eql (.var 1) (.lit 1))
 (.call 0 [.var 0, .ex (.var 2)] (.ret [.var 5, .ex (.var 6)]))
 (.br (.cmp .eql (.var 1) (.lit 2))
 (.call 1 [.var 0, .ex (.var 2), .ex (.var 3)] (.ret [.var 5, .ex (.lit 0)]))
 (.br (.cmp .eql (.var 1) (.lit 3))
 (.call 2 [.var 0, .ex (.var 2), .ex (.var 3), .ex (.var 4)] (.br (.var 6)
 (.ret [.var 5, .ex (.lit 1)])
 (.ret [.var 5, .ex (.lit 0)])))
 (.br (.cmp .eql (.var 1) (.lit 4))
 (.call 6 [.var 0, .ex (.var 2), .ex (.var 3)] (.ret [.var 5, .ex (.var 6)]))
 (.ret [.var 0, .ex (.lit 0)])))))
theorem rDoes : runCtr (cx Try.prog ctsC) 20 cDoes [] [] = tDoes := by kernel_rfl

def tAlike : Tree := (.br (.not (.isnil 0))
 (.br (.not (.isnil 1))
 (.call 4 [.var 0] (.call 4 [.var 1] (.br (.and (.cmp .eql (.var 3) (.var 9)) (.and (.cmp .eql (.var 4) (.var 10)) (.and (.cmp .eql (.var 5) (.var 11)) (.and (.cmp .eql (.var 6) (.var 12)) (.beq (.var 7) (.var 13))))))
 (.call 5 [.var 2] (.call 5 [.var 8] (.br (.cmp .eql (.var 15) (.var 17))
 (.call 7 [.var 14] (.call 7 [.var 16] (.br (.cmp .eql (.var 19) (.var 21))
 (.call 9 [.var 18] (.call 9 [.var 20] (.call 10 [.var 23, .var 26, .ex (.var 24), .ex (.var 24), .ex (.var 27), .ex (.var 27)] (.ret [.var 22, .var 25, .bx (.var 28)]))))
 (.ret [.var 18, .var 20, .bx (.lit false)]))))
 (.ret [.var 14, .var 16, .bx (.lit false)]))))
 (.ret [.var 2, .var 8, .bx (.lit false)]))))
 (.ret [.var 0, .var 1, .bx (.lit false)]))
 (.ret [.var 0, .var 1, .bx (.lit false)]))
theorem rAlike : runCtr (cx Try.prog ctsC) 20 cAlike [] [] = tAlike := by kernel_rfl

end Go.Proofs.Ytbkaclkbjpdfnaa
