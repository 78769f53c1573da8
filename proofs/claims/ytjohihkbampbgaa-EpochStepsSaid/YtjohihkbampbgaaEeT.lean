/- The ways of the runs, as a program of ours printed them. -/
import Derived.Test.YtjohihkbampbgaaEe
import Derived.KernelRfl
namespace Go.Proofs.Ytjohihkbampbgaa
set_option linter.unusedVariables false
set_option linter.unusedSimpArgs false
set_option linter.unusedSectionVars false
open Go
set_option maxRecDepth 100000

def hsENone : List (Nat × Nat × List Nat) := [(95, 3, [1000120])]
def tENone : Tree := (.call 3 [.ex (.lit 9)] (.br (.cmp .eql (.var 6) (.lit 0))
 (.br (.isnil 5)
 (.ret [.bx (.lit false)])
 (.call 12 [.ex (.var 0), .ex (.var 1), .ex (.var 2), .ex (.lit 200)] (.br (.cmp .eql (.var 7) (.lit 0))
 (.br (.cmp .geq (.var 3) (.lit 0))
 (.br (.cmp .lss (.var 3) (.var 2))
 (.callm 11 [.ex (.var 0), .ex (.var 1), .ex (.var 2)] (.call 10 [.ex (.var 0), .ex (.var 1), .ex (.var 2)] (.and (.and (.br (.cmp .lss (.var 0) (.lit 0))
 (.need (.cmp .leq (.lit 0) (.var 9)) (.br (.cmp .eql (.var 9) (.var 2))
 (.need (.cmp .leq (.lit 0) (.var 3)) (.need (.cmp .lss (.var 3) (.var 9)) (.need (.cmp .lss (.var 3) (.len 8)) (.need (.cmp .leq (.lit 0) (.var 3)) (.need (.cmp .lss (.var 3) (.len 8)) (.br (.cmp .eql (.nth 8 (.var 3)) (.lit (-1)))
 (.and (.and (.and (.and (.call 9 [] (.ret [.bx (.var 11)])) .ok) .ok) .ok) .ok)
 (.ret [.bx (.lit false)])))))))
 (.ret [.bx (.lit false)])))
 (.need (.cmp .leq (.lit 0) (.var 9)) (.br (.cmp .eql (.var 9) (.var 2))
 (.need (.cmp .leq (.lit 0) (.var 3)) (.need (.cmp .lss (.var 3) (.var 9)) (.need (.cmp .lss (.var 3) (.len 8)) (.need (.cmp .leq (.lit 0) (.var 3)) (.need (.cmp .lss (.var 3) (.len 8)) (.br (.cmp .eql (.nth 8 (.var 3)) (.lit (-1)))
 (.and (.and (.and (.and (.call 9 [] (.ret [.bx (.var 11)])) .ok) .ok) .ok) .ok)
 (.ret [.bx (.lit false)])))))))
 (.ret [.bx (.lit false)])))) .ok) .ok)))
 (.and (.and (.and (.call 5 [.var 5] (.br (.cmp .eql (.var 9) (.lit 0))
 (.call 9 [] (.ret [.bx (.var 10)]))
 (.ret [.bx (.lit false)]))) .ok) .ok) .ok))
 (.and (.and (.and (.call 5 [.var 5] (.br (.cmp .eql (.var 9) (.lit 0))
 (.call 9 [] (.ret [.bx (.var 10)]))
 (.ret [.bx (.lit false)]))) .ok) .ok) .ok))
 (.call 9 [] (.br (.var 8)
 (.call 5 [.var 5] (.ret [.bx (.cmp .eql (.var 10) (.lit 0))]))
 (.ret [.bx (.lit false)]))))))
 (.ret [.bx (.lit false)])))
theorem rENone : runCtr { (cx Try.prog ctsEN) with hints := hsENone } 20 cENone [] [] = tENone := by kernel_rfl

end Go.Proofs.Ytjohihkbampbgaa
