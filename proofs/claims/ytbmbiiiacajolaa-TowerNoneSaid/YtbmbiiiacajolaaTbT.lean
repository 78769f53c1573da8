/- The ways of the runs, as a program of ours printed them. -/
import Derived.Test.YtbmbiiiacajolaaTb
import Derived.KernelRfl
namespace Go.Proofs.Ytbmbiiiacajolaa
set_option linter.unusedVariables false
set_option linter.unusedSimpArgs false
set_option linter.unusedSectionVars false
open Go
set_option maxRecDepth 100000

def tTAwake : Tree := (.and (.and (.and (.and (.and (.and (.and (.and (.and (.and (.and (.and (.and (.and (.and (.and (.and (.and (.and (.and (.and (.and (.and (.and (.rng (.and (.and (.and (.and (.and (.and (.and (.and (.and (.and (.and (.and (.and (.and (.and (.and (.and (.and (.and (.and (.and (.and (.and (.and (.and (.and (.and (.and (.and (.and (.and (.and (.and (.and (.and (.and (.and (.and (.and (.and (.and (.app none (.lit 0) (.lit 0) (.and (.and (.and (.and (.and (.and (.and (.and (.need (.cmp .leq (.lit 1) (.var 2)) (.need (.cmp .leq (.var 2) (.len 1)) (.need (.cmp .leq (.len 1) (.var 2)) (.app (some 1) (.lit 1) (.lit 0) (.and (.need (.cmp .lss (.lit 0) (.len 3)) (.need (.cmp .lss (.lit 0) (.len 3)) (.br (.cmp .eql (.nth 3 (.lit 0)) (.lit 0))
 (.need (.cmp .lss (.lit 1) (.len 3)) (.need (.cmp .lss (.lit 1) (.len 3)) (.br (.cmp .eql (.nth 3 (.lit 1)) (.lit 0))
 (.and (.and (.ret [.bx (.lit true)]) .ok) .ok)
 (.ret [.bx (.lit false)]))))
 (.ret [.bx (.lit false)])))) .ok))))) .ok) .ok) .ok) .ok) .ok) .ok)
 (.and (.and (.and (.and (.and (.and (.and (.need (.cmp .leq (.lit 1) (.var 2)) (.need (.cmp .leq (.var 2) (.len 1)) (.need (.cmp .leq (.len 1) (.var 2)) (.app (some 1) (.lit 1) (.lit 0) (.and (.need (.cmp .lss (.lit 0) (.len 3)) (.need (.cmp .lss (.lit 0) (.len 3)) (.br (.cmp .eql (.nth 3 (.lit 0)) (.lit 0))
 (.need (.cmp .lss (.lit 1) (.len 3)) (.need (.cmp .lss (.lit 1) (.len 3)) (.br (.cmp .eql (.nth 3 (.lit 1)) (.lit 0))
 (.and (.and (.ret [.bx (.lit true)]) .ok) .ok)
 (.ret [.bx (.lit false)]))))
 (.ret [.bx (.lit false)])))) .ok))))) .ok) .ok)
 (.and (.and (.and (.need (.cmp .leq (.lit 1) (.var 2)) (.need (.cmp .leq (.var 2) (.len 1)) (.need (.cmp .leq (.len 1) (.var 2)) (.app (some 1) (.lit 1) (.lit 0) (.and (.need (.cmp .lss (.lit 0) (.len 3)) (.need (.cmp .lss (.lit 0) (.len 3)) (.br (.cmp .eql (.nth 3 (.lit 0)) (.lit 0))
 (.need (.cmp .lss (.lit 1) (.len 3)) (.need (.cmp .lss (.lit 1) (.len 3)) (.br (.cmp .eql (.nth 3 (.lit 1)) (.lit 0))
 (.and (.and (.ret [.bx (.lit true)]) .ok) .ok)
 (.ret [.bx (.lit false)]))))
 (.ret [.bx (.lit false)])))) .ok))))) .ok) .ok) .ok)) .ok) .ok) .ok) .ok)) .ok)) .ok) .ok) .ok) .ok) .ok) .ok)
 (.and (.and (.and (.and (.and (.and (.and (.app none (.lit 0) (.lit 0) (.and (.and (.and (.and (.and (.and (.and (.and (.need (.cmp .leq (.lit 1) (.var 2)) (.need (.cmp .leq (.var 2) (.len 1)) (.need (.cmp .leq (.len 1) (.var 2)) (.app (some 1) (.lit 1) (.lit 0) (.and (.need (.cmp .lss (.lit 0) (.len 3)) (.need (.cmp .lss (.lit 0) (.len 3)) (.br (.cmp .eql (.nth 3 (.lit 0)) (.lit 0))
 (.need (.cmp .lss (.lit 1) (.len 3)) (.need (.cmp .lss (.lit 1) (.len 3)) (.br (.cmp .eql (.nth 3 (.lit 1)) (.lit 0))
 (.and (.and (.ret [.bx (.lit true)]) .ok) .ok)
 (.ret [.bx (.lit false)]))))
 (.ret [.bx (.lit false)])))) .ok))))) .ok) .ok) .ok) .ok) .ok) .ok)
 (.and (.and (.and (.and (.and (.and (.and (.need (.cmp .leq (.lit 1) (.var 2)) (.need (.cmp .leq (.var 2) (.len 1)) (.need (.cmp .leq (.len 1) (.var 2)) (.app (some 1) (.lit 1) (.lit 0) (.and (.need (.cmp .lss (.lit 0) (.len 3)) (.need (.cmp .lss (.lit 0) (.len 3)) (.br (.cmp .eql (.nth 3 (.lit 0)) (.lit 0))
 (.need (.cmp .lss (.lit 1) (.len 3)) (.need (.cmp .lss (.lit 1) (.len 3)) (.br (.cmp .eql (.nth 3 (.lit 1)) (.lit 0))
 (.and (.and (.ret [.bx (.lit true)]) .ok) .ok)
 (.ret [.bx (.lit false)]))))
 (.ret [.bx (.lit false)])))) .ok))))) .ok) .ok)
 (.and (.and (.and (.need (.cmp .leq (.lit 1) (.var 2)) (.need (.cmp .leq (.var 2) (.len 1)) (.need (.cmp .leq (.len 1) (.var 2)) (.app (some 1) (.lit 1) (.lit 0) (.and (.need (.cmp .lss (.lit 0) (.len 3)) (.need (.cmp .lss (.lit 0) (.len 3)) (.br (.cmp .eql (.nth 3 (.lit 0)) (.lit 0))
 (.need (.cmp .lss (.lit 1) (.len 3)) (.need (.cmp .lss (.lit 1) (.len 3)) (.br (.cmp .eql (.nth 3 (.lit 1)) (.lit 0))
 (.and (.and (.ret [.bx (.lit true)]) .ok) .ok)
 (.ret [.bx (.lit false)]))))
 (.ret [.bx (.lit false)])))) .ok))))) .ok) .ok) .ok)) .ok) .ok) .ok) .ok)) .ok)) .ok) .ok)
 (.and (.and (.and (.app none (.lit 0) (.lit 0) (.and (.and (.and (.and (.and (.and (.and (.and (.need (.cmp .leq (.lit 1) (.var 2)) (.need (.cmp .leq (.var 2) (.len 1)) (.need (.cmp .leq (.len 1) (.var 2)) (.app (some 1) (.lit 1) (.lit 0) (.and (.need (.cmp .lss (.lit 0) (.len 3)) (.need (.cmp .lss (.lit 0) (.len 3)) (.br (.cmp .eql (.nth 3 (.lit 0)) (.lit 0))
 (.need (.cmp .lss (.lit 1) (.len 3)) (.need (.cmp .lss (.lit 1) (.len 3)) (.br (.cmp .eql (.nth 3 (.lit 1)) (.lit 0))
 (.and (.and (.ret [.bx (.lit true)]) .ok) .ok)
 (.ret [.bx (.lit false)]))))
 (.ret [.bx (.lit false)])))) .ok))))) .ok) .ok) .ok) .ok) .ok) .ok)
 (.and (.and (.and (.and (.and (.and (.and (.need (.cmp .leq (.lit 1) (.var 2)) (.need (.cmp .leq (.var 2) (.len 1)) (.need (.cmp .leq (.len 1) (.var 2)) (.app (some 1) (.lit 1) (.lit 0) (.and (.need (.cmp .lss (.lit 0) (.len 3)) (.need (.cmp .lss (.lit 0) (.len 3)) (.br (.cmp .eql (.nth 3 (.lit 0)) (.lit 0))
 (.need (.cmp .lss (.lit 1) (.len 3)) (.need (.cmp .lss (.lit 1) (.len 3)) (.br (.cmp .eql (.nth 3 (.lit 1)) (.lit 0))
 (.and (.and (.ret [.bx (.lit true)]) .ok) .ok)
 (.ret [.bx (.lit false)]))))
 (.ret [.bx (.lit false)])))) .ok))))) .ok) .ok)
 (.and (.and (.and (.need (.cmp .leq (.lit 1) (.var 2)) (.need (.cmp .leq (.var 2) (.len 1)) (.need (.cmp .leq (.len 1) (.var 2)) (.app (some 1) (.lit 1) (.lit 0) (.and (.need (.cmp .lss (.lit 0) (.len 3)) (.need (.cmp .lss (.lit 0) (.len 3)) (.br (.cmp .eql (.nth 3 (.lit 0)) (.lit 0))
 (.need (.cmp .lss (.lit 1) (.len 3)) (.need (.cmp .lss (.lit 1) (.len 3)) (.br (.cmp .eql (.nth 3 (.lit 1)) (.lit 0))
 (.and (.and (.ret [.bx (.lit true)]) .ok) .ok)
 (.ret [.bx (.lit false)]))))
 (.ret [.bx (.lit false)])))) .ok))))) .ok) .ok) .ok)) .ok) .ok) .ok) .ok)) .ok)) .ok) .ok) .ok)) .ok) .ok) .ok) .ok)) .ok) .ok) .ok) .ok) .ok) .ok) .ok) .ok) .ok) .ok) .ok) .ok) .ok) .ok) .ok) .ok) .ok) .ok) .ok) .ok) .ok) .ok) .ok) .ok) .ok) .ok) .ok) .ok) .ok) .ok) .ok) .ok) .ok)
 (.and (.and (.and (.and (.and .ok .ok) .ok)
 (.and (.and (.and .ok .ok) .ok) .ok))
 (.and (.and (.and (.and .ok .ok) .ok) .ok) .ok))
 (.and (.and (.and (.and (.and .ok .ok) .ok) .ok) .ok) .ok)))) .ok) .ok) .ok) .ok) .ok) .ok) .ok) .ok) .ok) .ok) .ok) .ok) .ok) .ok) .ok) .ok) .ok) .ok) .ok) .ok) .ok) .ok) .ok) .ok)
theorem rTAwake : runCtr (cxJ Try.prog) 60 cTAwake [] [] = tTAwake := by kernel_rfl

end Go.Proofs.Ytbmbiiiacajolaa
