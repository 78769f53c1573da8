/- The ways of the runs, as a program of ours printed them. -/
import Derived.Test.YtdabdbbgaekmdaaGreatCw
import Derived.KernelRfl
namespace Go.Proofs.YtdabdbbgaekmdaaGreat
set_option linter.unusedVariables false
set_option linter.unusedSimpArgs false
set_option linter.unusedSectionVars false
open Go
set_option maxRecDepth 100000

def tWords : Tree := (.and (.opn 0 0 (.need (.cmp .leq (.lit 0) (.var 2)) (.need (.cmp .leq (.var 2) (.lit 1000000)) (.ext (.repl (.var 2) (.lit 0)) (.need (.cmp .leq (.lit 0) (.var 2)) (.need (.cmp .leq (.var 2) (.lit 4096)) (.need (.cmp .lss (.lit 0) (.len 1)) (.need (.cmp .leq (.lit 0) (.var 2)) (.loop 0 10 [.ex (.lit 0), .var 9] (.br (.cmp .lss (.var 10) (.var 2))
 (.need (.cmp .leq (.lit 0) (.var 10)) (.need (.cmp .lss (.var 10) (.var 2)) (.need (.cmp .lss (.var 10) (.len 1)) (.need (.cmp .leq (.lit 0) (.var 10)) (.need (.cmp .lss (.var 10) (.len 1)) (.need (.cmp .leq (.lit 0) (.var 10)) (.need (.cmp .lss (.var 10) (.var 2)) (.need (.cmp .lss (.var 10) (.len 11)) (.need (.cmp .leq (.lit 0) (.var 10)) (.need (.cmp .lss (.var 10) (.len 11)) (.ext (.setl 11 (.var 10) (.nth 1 (.var 10))) (.back 0 10 [.ex (.bin .add .i64 (.var 10) (.lit 1)), .var 12]))))))))))))
 (.ext (.mk 0 [.var 1, .ex (.var 2), .ex (.var 3), .ex (.var 4), .ex (.var 5), .ex (.var 6), .bx (.var 7), .ex (.var 8)]) (.ret [.var 12, .var 11, .ex (.var 2)]))))))))))))
 (.nomore 0 [0]))
theorem rWords : runCtr (cxW Tryz.prog) 20 cWords [(0, [0])] [(0, [0])] = tWords := by kernel_rfl

def tSameWords : Tree := (.need (.cmp .leq (.lit 0) (.var 2)) (.need (.cmp .leq (.lit 0) (.var 4)) (.loop 1 6 [.ex (.lit 0), .bx (.cmp .eql (.var 2) (.var 4))] (.br (.var 7)
 (.need (.cmp .leq (.lit 0) (.var 2)) (.br (.cmp .lss (.var 6) (.var 2))
 (.need (.cmp .leq (.lit 0) (.var 6)) (.need (.cmp .lss (.var 6) (.var 2)) (.need (.cmp .lss (.var 6) (.len 0)) (.need (.cmp .leq (.lit 0) (.var 6)) (.need (.cmp .lss (.var 6) (.len 0)) (.need (.cmp .leq (.lit 0) (.var 6)) (.need (.cmp .lss (.var 6) (.var 4)) (.need (.cmp .lss (.var 6) (.len 1)) (.need (.cmp .leq (.lit 0) (.var 6)) (.need (.cmp .lss (.var 6) (.len 1)) (.back 1 6 [.ex (.bin .add .i64 (.var 6) (.lit 1)), .bx (.cmp .eql (.nth 0 (.var 6)) (.nth 1 (.var 6)))])))))))))))
 (.ret [.bx (.var 7)])))
 (.ret [.bx (.var 7)])))))
theorem rSameWords : runCtr (cxW Tryz.prog) 20 cSameWords [] [] = tSameWords := by kernel_rfl

def tPick : Tree := (.br (.cmp .leq (.var 1) (.lit 0))
 (.ret [.ex (.lit 0)])
 (.need (.cmp .neq (.var 1) (.lit 0)) (.br (.cmp .lss (.bin .rem .i64 (.var 0) (.var 1)) (.lit 0))
 (.ret [.ex (.bin .add .i64 (.bin .rem .i64 (.var 0) (.var 1)) (.var 1))])
 (.ret [.ex (.bin .rem .i64 (.var 0) (.var 1))]))))
theorem rPick : runCtr (cxW Tryz.prog) 20 cPick [] [] = tPick := by kernel_rfl

end Go.Proofs.YtdabdbbgaekmdaaGreat
