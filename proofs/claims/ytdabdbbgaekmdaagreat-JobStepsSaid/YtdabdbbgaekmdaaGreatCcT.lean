/- The ways of the runs, as a program of ours printed them. -/
import Derived.Test.YtdabdbbgaekmdaaGreatCc
import Derived.KernelRfl
namespace Go.Proofs.YtdabdbbgaekmdaaGreat
set_option linter.unusedVariables false
set_option linter.unusedSimpArgs false
set_option linter.unusedSectionVars false
open Go
set_option maxRecDepth 100000

def tLoad : Tree := (.and (.opn 0 0 (.br (.cmp .lss (.var 1) (.lit 0))
 (.ext (.mk 0 [.var 2, .ex (.var 3), .ex (.lit 1), .ex (.var 1), .ex (.lit 0), .ex (.lit 0), .bx (.lit false), .ex (.bin .add .i64 (.var 9) (.lit 1))]) (.ret [.var 10, .ex (.lit 0)]))
 (.br (.cmp .geq (.var 1) (.var 3))
 (.ext (.mk 0 [.var 2, .ex (.var 3), .ex (.lit 1), .ex (.var 1), .ex (.lit 0), .ex (.lit 0), .bx (.lit false), .ex (.bin .add .i64 (.var 9) (.lit 1))]) (.ret [.var 10, .ex (.lit 0)]))
 (.need (.cmp .leq (.lit 0) (.var 1)) (.need (.cmp .lss (.var 1) (.lit 4096)) (.need (.cmp .leq (.lit 0) (.var 1)) (.need (.cmp .lss (.var 1) (.len 2)) (.need (.cmp .leq (.lit 0) (.var 1)) (.need (.cmp .lss (.var 1) (.len 2)) (.need (.cmp .leq (.lit 0) (.var 1)) (.need (.cmp .lss (.var 1) (.len 2)) (.ext (.setl 2 (.var 1) (.nth 2 (.var 1))) (.ext (.mk 0 [.var 10, .ex (.var 3), .ex (.lit 1), .ex (.var 1), .ex (.nth 2 (.var 1)), .ex (.nth 2 (.var 1)), .bx (.lit false), .ex (.bin .add .i64 (.var 9) (.lit 1))]) (.ret [.var 11, .ex (.nth 2 (.var 1))]))))))))))))))
 (.nomore 0 [0]))
theorem rLoad : runCtr (cx Tryz.prog []) 20 cLoad [(0, [0])] [(0, [0, 1])] = tLoad := by kernel_rfl

def tStore : Tree := (.and (.opn 0 0 (.br (.cmp .lss (.var 1) (.lit 0))
 (.ext (.mk 0 [.var 3, .ex (.var 4), .ex (.lit 2), .ex (.var 1), .ex (.lit 0), .ex (.lit 0), .bx (.lit false), .ex (.bin .add .i64 (.var 10) (.lit 1))]) (.ret [.var 11]))
 (.br (.cmp .geq (.var 1) (.var 4))
 (.ext (.mk 0 [.var 3, .ex (.var 4), .ex (.lit 2), .ex (.var 1), .ex (.lit 0), .ex (.lit 0), .bx (.lit false), .ex (.bin .add .i64 (.var 10) (.lit 1))]) (.ret [.var 11]))
 (.need (.cmp .leq (.lit 0) (.var 1)) (.need (.cmp .lss (.var 1) (.lit 4096)) (.need (.cmp .leq (.lit 0) (.var 1)) (.need (.cmp .lss (.var 1) (.len 3)) (.need (.cmp .leq (.lit 0) (.var 1)) (.need (.cmp .lss (.var 1) (.len 3)) (.ext (.setl 3 (.var 1) (.var 2)) (.ext (.mk 0 [.var 11, .ex (.var 4), .ex (.lit 2), .ex (.var 1), .ex (.nth 3 (.var 1)), .ex (.var 2), .bx (.lit true), .ex (.bin .add .i64 (.var 10) (.lit 1))]) (.ret [.var 12]))))))))))))
 (.nomore 0 [0]))
theorem rStore : runCtr (cx Tryz.prog []) 20 cStore [(0, [0])] [(0, [0, 1])] = tStore := by kernel_rfl

def tCAS : Tree := (.and (.opn 0 0 (.br (.cmp .lss (.var 1) (.lit 0))
 (.ext (.mk 0 [.var 4, .ex (.var 5), .ex (.lit 3), .ex (.var 1), .ex (.lit 0), .ex (.lit 0), .bx (.lit false), .ex (.bin .add .i64 (.var 11) (.lit 1))]) (.ret [.var 12, .bx (.lit false)]))
 (.br (.cmp .geq (.var 1) (.var 5))
 (.ext (.mk 0 [.var 4, .ex (.var 5), .ex (.lit 3), .ex (.var 1), .ex (.lit 0), .ex (.lit 0), .bx (.lit false), .ex (.bin .add .i64 (.var 11) (.lit 1))]) (.ret [.var 12, .bx (.lit false)]))
 (.need (.cmp .leq (.lit 0) (.var 1)) (.need (.cmp .lss (.var 1) (.lit 4096)) (.need (.cmp .leq (.lit 0) (.var 1)) (.need (.cmp .lss (.var 1) (.len 4)) (.br (.cmp .eql (.nth 4 (.var 1)) (.var 2))
 (.need (.cmp .leq (.lit 0) (.var 1)) (.need (.cmp .lss (.var 1) (.len 4)) (.need (.cmp .leq (.lit 0) (.var 1)) (.need (.cmp .lss (.var 1) (.len 4)) (.ext (.setl 4 (.var 1) (.var 3)) (.ext (.mk 0 [.var 12, .ex (.var 5), .ex (.lit 3), .ex (.var 1), .ex (.nth 4 (.var 1)), .ex (.var 3), .bx (.lit true), .ex (.bin .add .i64 (.var 11) (.lit 1))]) (.ret [.var 13, .bx (.lit true)])))))))
 (.need (.cmp .leq (.lit 0) (.var 1)) (.need (.cmp .lss (.var 1) (.len 4)) (.need (.cmp .leq (.lit 0) (.var 1)) (.need (.cmp .lss (.var 1) (.len 4)) (.need (.cmp .leq (.lit 0) (.var 1)) (.need (.cmp .lss (.var 1) (.len 4)) (.ext (.setl 4 (.var 1) (.nth 4 (.var 1))) (.ext (.mk 0 [.var 12, .ex (.var 5), .ex (.lit 3), .ex (.var 1), .ex (.nth 4 (.var 1)), .ex (.nth 4 (.var 1)), .bx (.lit false), .ex (.bin .add .i64 (.var 11) (.lit 1))]) (.ret [.var 13, .bx (.lit false)])))))))))))))))))
 (.nomore 0 [0]))
theorem rCAS : runCtr (cx Tryz.prog []) 20 cCAS [(0, [0])] [(0, [0, 1])] = tCAS := by kernel_rfl

def tNew : Tree := (.br (.cmp .lss (.var 0) (.lit 1))
 (.ext (.mk 1 []) (.ret [.var 1, .ex (.lit 3)]))
 (.br (.cmp .gtr (.var 0) (.lit 4096))
 (.ext (.mk 1 []) (.ret [.var 1, .ex (.lit 3)]))
 (.ext (.repl (.lit 4096) (.lit 0)) (.ext (.mk 0 [.var 1, .ex (.var 0), .ex (.lit 0), .ex (.lit 0), .ex (.lit 0), .ex (.lit 0), .bx (.lit false), .ex (.lit 0)]) (.ret [.var 2, .ex (.lit 0)])))))
theorem rNew : runCtr (cx Tryz.prog []) 20 cNew [] [(0, [0, 1])] = tNew := by kernel_rfl

def tLast : Tree := (.and (.opn 0 0 (.ext (.mk 0 [.var 1, .ex (.var 2), .ex (.var 3), .ex (.var 4), .ex (.var 5), .ex (.var 6), .bx (.var 7), .ex (.var 8)]) (.ret [.var 9, .ex (.var 3), .ex (.var 4), .ex (.var 5), .ex (.var 6), .bx (.var 7)])))
 (.nomore 0 [0]))
theorem rLast : runCtr (cx Tryz.prog []) 20 cLast [(0, [0])] [(0, [0, 1])] = tLast := by kernel_rfl

def tCount : Tree := (.and (.opn 0 0 (.ext (.mk 0 [.var 1, .ex (.var 2), .ex (.var 3), .ex (.var 4), .ex (.var 5), .ex (.var 6), .bx (.var 7), .ex (.var 8)]) (.ret [.var 9, .ex (.var 8)])))
 (.nomore 0 [0]))
theorem rCount : runCtr (cx Tryz.prog []) 20 cCount [(0, [0])] [(0, [0, 1])] = tCount := by kernel_rfl

end Go.Proofs.YtdabdbbgaekmdaaGreat
