/- The ways of the runs, as a program of ours printed them. -/
import Derived.Test.YtdabdbbgaekmdaaJd
import Derived.KernelRfl
namespace Go.Proofs.Ytdabdbbgaekmdaa
set_option linter.unusedVariables false
set_option linter.unusedSimpArgs false
set_option linter.unusedSectionVars false
open Go
set_option maxRecDepth 100000

def tJBack : Tree := (.call 2 [] (.call 0 [.ex (.var 0), .ex (.var 1), .ex (.var 2)] (.call 0 [.ex (.var 3), .ex (.var 4), .ex (.var 5)] (.br (.cmp .eql (.var 9) (.lit 0))
 (.call 1 [.ex (.var 8)] (.br (.cmp .eql (.var 15) (.lit 0))
 (.br (.and (.cmp .eql (.var 12) (.var 0)) (.and (.cmp .eql (.var 13) (.var 1)) (.cmp .eql (.var 14) (.var 2))))
 (.br (.cmp .eql (.var 11) (.lit 0))
 (.br (.beq (.cmp .eql (.var 8) (.var 10)) (.and (.cmp .eql (.var 0) (.var 3)) (.and (.cmp .eql (.var 1) (.var 4)) (.cmp .eql (.var 2) (.var 5)))))
 (.call 1 [.ex (.var 6)] (.br (.cmp .eql (.var 19) (.lit 0))
 (.call 0 [.ex (.var 16), .ex (.var 17), .ex (.var 18)] (.br (.var 7)
 (.br (.cmp .eql (.var 21) (.lit 0))
 (.ret [.bx (.cmp .eql (.var 20) (.var 6))])
 (.ret [.bx (.lit false)]))
 (.ret [.bx (.lit false)])))
 (.br (.var 7)
 (.ret [.bx (.and (.cmp .eql (.var 16) (.lit 0)) (.and (.cmp .eql (.var 17) (.lit 0)) (.cmp .eql (.var 18) (.lit 0))))])
 (.ret [.bx (.lit false)]))))
 (.ret [.bx (.lit false)]))
 (.call 1 [.ex (.var 6)] (.br (.cmp .eql (.var 19) (.lit 0))
 (.call 0 [.ex (.var 16), .ex (.var 17), .ex (.var 18)] (.br (.var 7)
 (.br (.cmp .eql (.var 21) (.lit 0))
 (.ret [.bx (.cmp .eql (.var 20) (.var 6))])
 (.ret [.bx (.lit false)]))
 (.ret [.bx (.lit false)])))
 (.br (.var 7)
 (.ret [.bx (.and (.cmp .eql (.var 16) (.lit 0)) (.and (.cmp .eql (.var 17) (.lit 0)) (.cmp .eql (.var 18) (.lit 0))))])
 (.ret [.bx (.lit false)])))))
 (.ret [.bx (.lit false)]))
 (.ret [.bx (.lit false)])))
 (.call 1 [.ex (.var 6)] (.br (.cmp .eql (.var 15) (.lit 0))
 (.call 0 [.ex (.var 12), .ex (.var 13), .ex (.var 14)] (.br (.var 7)
 (.br (.cmp .eql (.var 17) (.lit 0))
 (.ret [.bx (.cmp .eql (.var 16) (.var 6))])
 (.ret [.bx (.lit false)]))
 (.ret [.bx (.lit false)])))
 (.br (.var 7)
 (.ret [.bx (.and (.cmp .eql (.var 12) (.lit 0)) (.and (.cmp .eql (.var 13) (.lit 0)) (.cmp .eql (.var 14) (.lit 0))))])
 (.ret [.bx (.lit false)]))))))))
theorem rJBack : runCtr (cxJ Try.prog ctsJD) 40 cJBack [] [] = tJBack := by kernel_rfl

end Go.Proofs.Ytdabdbbgaekmdaa
