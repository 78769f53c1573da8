/- The ways of the runs, as a program of ours printed them. -/
import Derived.Test.YtdabdbbgaekmdaaGreatRm
import Derived.KernelRfl
namespace Go.Proofs.YtdabdbbgaekmdaaGreat
set_option linter.unusedVariables false
set_option linter.unusedSimpArgs false
set_option linter.unusedSectionVars false
open Go
set_option maxRecDepth 100000

def tQWords : Tree := (.and (.opn 0 3 (.need (.cmp .leq (.lit 0) (.var 2)) (.need (.cmp .leq (.var 2) (.len 1)) (.need (.cmp .leq (.var 2) (.lit 1000000)) (.br (.cmp .eql (.var 2) (.lit 0))
 (.ext (.lst []) (.ext (.mk 3 [.var 1, .ex (.var 2), .ex (.var 3), .ex (.var 4), .ex (.var 5), .ex (.var 6), .bx (.var 7), .ex (.var 8)]) (.ret [.var 10, .var 9, .ex (.lit 0), .ex (.lit 0)])))
 (.grow 1 (.var 2) (.ext (.mk 3 [.var 1, .ex (.var 2), .ex (.var 3), .ex (.var 4), .ex (.var 5), .ex (.var 6), .bx (.var 7), .ex (.var 8)]) (.ret [.var 11, .var 9, .ex (.var 2), .ex (.var 10)]))))))))
 (.nomore 0 [3]))
theorem rQWords : runCtr (cx Tryz.prog []) 20 cQWords [(0, [3])] [(0, [3])] = tQWords := by kernel_rfl

def tQLoad : Tree := (.and (.opn 0 3 (.br (.cmp .lss (.var 1) (.lit 0))
 (.ext (.mk 3 [.var 2, .ex (.var 3), .ex (.lit 1), .ex (.var 1), .ex (.lit 0), .ex (.lit 0), .bx (.lit false), .ex (.bin .add .i64 (.var 9) (.lit 1))]) (.ret [.var 10, .ex (.lit 0)]))
 (.need (.cmp .leq (.lit 0) (.var 3)) (.br (.cmp .geq (.var 1) (.var 3))
 (.ext (.mk 3 [.var 2, .ex (.var 3), .ex (.lit 1), .ex (.var 1), .ex (.lit 0), .ex (.lit 0), .bx (.lit false), .ex (.bin .add .i64 (.var 9) (.lit 1))]) (.ret [.var 10, .ex (.lit 0)]))
 (.need (.cmp .leq (.lit 0) (.var 1)) (.need (.cmp .lss (.var 1) (.var 3)) (.need (.cmp .lss (.var 1) (.len 2)) (.need (.cmp .leq (.lit 0) (.var 1)) (.need (.cmp .lss (.var 1) (.len 2)) (.need (.cmp .leq (.lit 0) (.var 1)) (.need (.cmp .lss (.var 1) (.var 3)) (.need (.cmp .lss (.var 1) (.len 2)) (.need (.cmp .leq (.lit 0) (.var 1)) (.need (.cmp .lss (.var 1) (.len 2)) (.ext (.mk 3 [.var 2, .ex (.var 3), .ex (.lit 1), .ex (.var 1), .ex (.nth 2 (.var 1)), .ex (.nth 2 (.var 1)), .bx (.lit false), .ex (.bin .add .i64 (.var 9) (.lit 1))]) (.ret [.var 10, .ex (.nth 2 (.var 1))]))))))))))))))))
 (.nomore 0 [3]))
theorem rQLoad : runCtr (cx Tryz.prog []) 20 cQLoad [(0, [3])] [(0, [3])] = tQLoad := by kernel_rfl

def tQStore : Tree := (.and (.opn 0 3 (.br (.cmp .lss (.var 1) (.lit 0))
 (.ext (.mk 3 [.var 3, .ex (.var 4), .ex (.lit 2), .ex (.var 1), .ex (.lit 0), .ex (.lit 0), .bx (.lit false), .ex (.bin .add .i64 (.var 10) (.lit 1))]) (.ret [.var 11]))
 (.need (.cmp .leq (.lit 0) (.var 4)) (.br (.cmp .geq (.var 1) (.var 4))
 (.ext (.mk 3 [.var 3, .ex (.var 4), .ex (.lit 2), .ex (.var 1), .ex (.lit 0), .ex (.lit 0), .bx (.lit false), .ex (.bin .add .i64 (.var 10) (.lit 1))]) (.ret [.var 11]))
 (.need (.cmp .leq (.lit 0) (.var 1)) (.need (.cmp .lss (.var 1) (.var 4)) (.need (.cmp .lss (.var 1) (.len 3)) (.need (.cmp .leq (.lit 0) (.var 1)) (.need (.cmp .lss (.var 1) (.len 3)) (.need (.cmp .leq (.lit 0) (.var 1)) (.need (.cmp .lss (.var 1) (.var 4)) (.need (.cmp .lss (.var 1) (.len 3)) (.need (.cmp .leq (.lit 0) (.var 1)) (.need (.cmp .lss (.var 1) (.len 3)) (.ext (.setl 3 (.var 1) (.var 2)) (.need (.cmp .leq (.lit 0) (.var 1)) (.need (.cmp .lss (.var 1) (.var 4)) (.need (.cmp .lss (.var 1) (.len 11)) (.need (.cmp .leq (.lit 0) (.var 1)) (.need (.cmp .lss (.var 1) (.len 11)) (.ext (.mk 3 [.var 11, .ex (.var 4), .ex (.lit 2), .ex (.var 1), .ex (.nth 3 (.var 1)), .ex (.nth 11 (.var 1)), .bx (.lit true), .ex (.bin .add .i64 (.var 10) (.lit 1))]) (.ret [.var 12]))))))))))))))))))))))
 (.nomore 0 [3]))
theorem rQStore : runCtr (cx Tryz.prog []) 20 cQStore [(0, [3])] [(0, [3])] = tQStore := by kernel_rfl

def tQCAS : Tree := (.and (.opn 0 3 (.br (.cmp .lss (.var 1) (.lit 0))
 (.ext (.mk 3 [.var 4, .ex (.var 5), .ex (.lit 3), .ex (.var 1), .ex (.lit 0), .ex (.lit 0), .bx (.lit false), .ex (.bin .add .i64 (.var 11) (.lit 1))]) (.ret [.var 12, .bx (.lit false)]))
 (.need (.cmp .leq (.lit 0) (.var 5)) (.br (.cmp .geq (.var 1) (.var 5))
 (.need (.cmp .leq (.lit 0) (.var 5)) (.ext (.mk 3 [.var 4, .ex (.var 5), .ex (.lit 3), .ex (.var 1), .ex (.lit 0), .ex (.lit 0), .bx (.lit false), .ex (.bin .add .i64 (.var 11) (.lit 1))]) (.ret [.var 12, .bx (.lit false)])))
 (.need (.cmp .leq (.lit 0) (.var 1)) (.need (.cmp .lss (.var 1) (.var 5)) (.need (.cmp .lss (.var 1) (.len 4)) (.need (.cmp .leq (.lit 0) (.var 1)) (.need (.cmp .lss (.var 1) (.len 4)) (.need (.cmp .leq (.lit 0) (.var 5)) (.need (.cmp .leq (.lit 0) (.var 1)) (.need (.cmp .lss (.var 1) (.var 5)) (.need (.cmp .lss (.var 1) (.len 4)) (.need (.cmp .leq (.lit 0) (.var 1)) (.need (.cmp .lss (.var 1) (.len 4)) (.br (.cmp .eql (.nth 4 (.var 1)) (.var 2))
 (.need (.cmp .leq (.lit 0) (.var 1)) (.need (.cmp .lss (.var 1) (.var 5)) (.need (.cmp .lss (.var 1) (.len 4)) (.need (.cmp .leq (.lit 0) (.var 1)) (.need (.cmp .lss (.var 1) (.len 4)) (.ext (.setl 4 (.var 1) (.var 3)) (.need (.cmp .leq (.lit 0) (.var 1)) (.need (.cmp .lss (.var 1) (.var 5)) (.need (.cmp .lss (.var 1) (.len 12)) (.need (.cmp .leq (.lit 0) (.var 1)) (.need (.cmp .lss (.var 1) (.len 12)) (.ext (.mk 3 [.var 12, .ex (.var 5), .ex (.lit 3), .ex (.var 1), .ex (.nth 4 (.var 1)), .ex (.nth 12 (.var 1)), .bx (.cmp .eql (.nth 4 (.var 1)) (.var 2)), .ex (.bin .add .i64 (.var 11) (.lit 1))]) (.ret [.var 13, .bx (.cmp .eql (.nth 4 (.var 1)) (.var 2))])))))))))))))
 (.need (.cmp .leq (.lit 0) (.var 1)) (.need (.cmp .lss (.var 1) (.var 5)) (.need (.cmp .lss (.var 1) (.len 4)) (.need (.cmp .leq (.lit 0) (.var 1)) (.need (.cmp .lss (.var 1) (.len 4)) (.ext (.mk 3 [.var 4, .ex (.var 5), .ex (.lit 3), .ex (.var 1), .ex (.nth 4 (.var 1)), .ex (.nth 4 (.var 1)), .bx (.cmp .eql (.nth 4 (.var 1)) (.var 2)), .ex (.bin .add .i64 (.var 11) (.lit 1))]) (.ret [.var 12, .bx (.cmp .eql (.nth 4 (.var 1)) (.var 2))])))))))))))))))))))))))
 (.nomore 0 [3]))
theorem rQCAS : runCtr (cx Tryz.prog []) 20 cQCAS [(0, [3])] [(0, [3])] = tQCAS := by kernel_rfl

def tQAt : Tree := (.and (.opn 0 3 (.br (.cmp .lss (.var 1) (.lit 0))
 (.ext (.mk 3 [.var 2, .ex (.var 3), .ex (.var 4), .ex (.var 5), .ex (.var 6), .ex (.var 7), .bx (.var 8), .ex (.var 9)]) (.ret [.var 10, .ex (.lit 0)]))
 (.need (.cmp .leq (.lit 0) (.var 3)) (.br (.cmp .geq (.var 1) (.var 3))
 (.ext (.mk 3 [.var 2, .ex (.var 3), .ex (.var 4), .ex (.var 5), .ex (.var 6), .ex (.var 7), .bx (.var 8), .ex (.var 9)]) (.ret [.var 10, .ex (.lit 0)]))
 (.need (.cmp .leq (.lit 0) (.var 1)) (.need (.cmp .lss (.var 1) (.var 3)) (.need (.cmp .lss (.var 1) (.len 2)) (.need (.cmp .leq (.lit 0) (.var 1)) (.need (.cmp .lss (.var 1) (.len 2)) (.ext (.mk 3 [.var 2, .ex (.var 3), .ex (.var 4), .ex (.var 5), .ex (.var 6), .ex (.var 7), .bx (.var 8), .ex (.var 9)]) (.ret [.var 10, .ex (.nth 2 (.var 1))])))))))))))
 (.nomore 0 [3]))
theorem rQAt : runCtr (cx Tryz.prog []) 20 cQAt [(0, [3])] [(0, [3])] = tQAt := by kernel_rfl

def tQLast : Tree := (.and (.opn 0 3 (.ext (.mk 3 [.var 1, .ex (.var 2), .ex (.var 3), .ex (.var 4), .ex (.var 5), .ex (.var 6), .bx (.var 7), .ex (.var 8)]) (.ret [.var 9, .ex (.var 3), .ex (.var 4), .ex (.var 5), .ex (.var 6), .bx (.var 7)])))
 (.nomore 0 [3]))
theorem rQLast : runCtr (cx Tryz.prog []) 20 cQLast [(0, [3])] [(0, [3])] = tQLast := by kernel_rfl

def tQCount : Tree := (.and (.opn 0 3 (.ext (.mk 3 [.var 1, .ex (.var 2), .ex (.var 3), .ex (.var 4), .ex (.var 5), .ex (.var 6), .bx (.var 7), .ex (.var 8)]) (.ret [.var 9, .ex (.var 8)])))
 (.nomore 0 [3]))
theorem rQCount : runCtr (cx Tryz.prog []) 20 cQCount [(0, [3])] [(0, [3])] = tQCount := by kernel_rfl

def tQNew : Tree := (.br (.cmp .lss (.var 0) (.lit 1))
 (.ext (.mk 4 []) (.ret [.var 1, .ex (.lit 3)]))
 (.br (.cmp .gtr (.var 0) (.lit 4096))
 (.ext (.mk 4 []) (.ret [.var 1, .ex (.lit 3)]))
 (.need (.cmp .leq (.lit 0) (.var 0)) (.need (.cmp .leq (.var 0) (.lit 1000000)) (.ext (.repl (.var 0) (.lit 0)) (.ext (.mk 3 [.var 1, .ex (.var 0), .ex (.lit 0), .ex (.lit 0), .ex (.lit 0), .ex (.lit 0), .bx (.lit false), .ex (.lit 0)]) (.ret [.var 2, .ex (.lit 0)])))))))
theorem rQNew : runCtr (cx Tryz.prog []) 20 cQNew [] [(0, [3, 4])] = tQNew := by kernel_rfl

end Go.Proofs.YtdabdbbgaekmdaaGreat
