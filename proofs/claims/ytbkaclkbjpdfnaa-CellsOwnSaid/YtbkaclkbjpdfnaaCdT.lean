/- The ways of the runs, as a program of ours printed them. -/
import Derived.Test.YtbkaclkbjpdfnaaCd
import Derived.KernelRfl
namespace Go.Proofs.Ytbkaclkbjpdfnaa
set_option linter.unusedVariables false
set_option linter.unusedSimpArgs false
set_option linter.unusedSectionVars false
open Go
set_option maxRecDepth 100000

def tAdd : Tree := (.and (.opn 0 0 (.br (.cmp .lss (.var 1) (.lit 0))
 (.ext (.mk 0 [.var 3, .ex (.var 4), .ex (.lit 4), .ex (.var 1), .ex (.lit 0), .ex (.lit 0), .bx (.lit false), .ex (.bin .add .i64 (.var 10) (.lit 1))]) (.ret [.var 11, .ex (.lit 0)]))
 (.br (.cmp .geq (.var 1) (.var 4))
 (.ext (.mk 0 [.var 3, .ex (.var 4), .ex (.lit 4), .ex (.var 1), .ex (.lit 0), .ex (.lit 0), .bx (.lit false), .ex (.bin .add .i64 (.var 10) (.lit 1))]) (.ret [.var 11, .ex (.lit 0)]))
 (.need (.cmp .leq (.lit 0) (.var 1)) (.need (.cmp .lss (.var 1) (.lit 4096)) (.need (.cmp .leq (.lit 0) (.var 1)) (.need (.cmp .lss (.var 1) (.len 3)) (.need (.cmp .leq (.lit 0) (.var 1)) (.need (.cmp .lss (.var 1) (.len 3)) (.need (.cmp .leq (.lit 0) (.var 1)) (.need (.cmp .lss (.var 1) (.len 3)) (.ext (.setl 3 (.var 1) (.bin .add .u64 (.nth 3 (.var 1)) (.var 2))) (.ext (.mk 0 [.var 11, .ex (.var 4), .ex (.lit 4), .ex (.var 1), .ex (.nth 3 (.var 1)), .ex (.bin .add .u64 (.nth 3 (.var 1)) (.var 2)), .bx (.lit true), .ex (.bin .add .i64 (.var 10) (.lit 1))]) (.ret [.var 12, .ex (.bin .add .u64 (.nth 3 (.var 1)) (.var 2))]))))))))))))))
 (.nomore 0 [0]))
theorem rAdd : runCtr (cx Try.prog []) 20 cAdd [(0,[0])] [(0,[0])] = tAdd := by kernel_rfl

def tSize : Tree := (.and (.opn 0 0 (.ext (.mk 0 [.var 1, .ex (.var 2), .ex (.var 3), .ex (.var 4), .ex (.var 5), .ex (.var 6), .bx (.var 7), .ex (.var 8)]) (.ret [.var 9, .ex (.var 2)])))
 (.nomore 0 [0]))
theorem rSize : runCtr (cx Try.prog []) 20 cSize [(0,[0])] [(0,[0])] = tSize := by kernel_rfl

def tCopy : Tree := (.and (.opn 0 0 (.need (.cmp .eql (.len 1) (.lit 4096)) (.ext (.repl (.lit 4096) (.lit 0)) (.need (.cmp .eql (.len 9) (.lit 4096)) (.need (.cmp .eql (.len 1) (.lit 4096)) (.ext (.mk 0 [.var 1, .ex (.var 2), .ex (.var 3), .ex (.var 4), .ex (.var 5), .ex (.var 6), .bx (.var 7), .ex (.var 8)]) (.ext (.mk 0 [.var 1, .ex (.var 2), .ex (.var 3), .ex (.var 4), .ex (.var 5), .ex (.var 6), .bx (.var 7), .ex (.var 8)]) (.ret [.var 10, .var 11]))))))))
 (.nomore 0 [0]))
theorem rCopy : runCtr (cx Try.prog []) 20 cCopy [(0,[0])] [(0,[0]),(1,[0])] = tCopy := by kernel_rfl

end Go.Proofs.Ytbkaclkbjpdfnaa
