/- The ways of the runs, as a program of ours printed them. -/
import Derived.Test.YtbmbiiiacajolaaPh
import Derived.KernelRfl
namespace Go.Proofs.Ytbmbiiiacajolaa
set_option linter.unusedVariables false
set_option linter.unusedSimpArgs false
set_option linter.unusedSectionVars false
open Go
set_option maxRecDepth 100000

def hsTApart : List (Nat × Nat × List Nat) := []
def tTApartL0 : Tree := (.need (.cmp .leq (.lit 0) (.var 19)) (.br (.cmp .lss (.var 21) (.var 19))
 (.need (.cmp .leq (.lit 0) (.var 21)) (.need (.cmp .lss (.var 21) (.var 19)) (.need (.cmp .lss (.var 21) (.len 18)) (.need (.cmp .leq (.lit 0) (.var 21)) (.need (.cmp .lss (.var 21) (.len 18)) (.and (.call 1 [.ex (.var 0), .ex (.var 1), .ex (.var 2), .ex (.var 3), .ex (.var 4), .ex (.var 5), .ex (.var 6), .ex (.var 7), .ex (.var 8), .ex (.var 9), .ex (.var 10), .ex (.var 11), .ex (.var 12), .ex (.nth 18 (.var 21))] (.br (.var 24)
 (.ret [.bx (.lit false)])
 (.back 1 21 [.ex (.bin .add .i64 (.var 21) (.lit 1))]))) .ok))))))
 (.br (.var 14)
 (.ret [.bx (.cmp .eql (.var 16) (.bin .add .i64 (.bin .mul .i64 (.var 5) (.bin .add .i64 (.lit 4) (.var 2))) (.var 2)))])
 (.ret [.bx (.lit false)]))))
def tTApartL1 : Tree := (.br (.cmp .lss (.var 17) (.var 13))
 (.call 1 [.ex (.var 0), .ex (.var 1), .ex (.var 2), .ex (.var 3), .ex (.var 4), .ex (.var 5), .ex (.var 6), .ex (.var 7), .ex (.var 8), .ex (.var 9), .ex (.var 10), .ex (.var 11), .ex (.var 12), .ex (.var 17)] (.br (.var 20)
 (.call 2 [.ex (.var 0), .ex (.var 1), .ex (.var 2), .ex (.var 3), .ex (.var 4), .ex (.var 5), .ex (.var 6), .ex (.var 7), .ex (.var 8), .ex (.var 9), .ex (.var 10), .ex (.var 11), .ex (.var 12), .ex (.var 18), .ex (.var 19)] (.br (.cmp .eql (.var 21) (.var 17))
 (.br (.cmp .geq (.var 19) (.lit 4))
 (.br (.cmp .lss (.bin .sub .i64 (.var 19) (.lit 4)) (.lit 0))
 (.br (.cmp .eql (.lit (-1)) (.var 17))
 (.back 0 16 [.ex (.bin .add .i64 (.var 16) (.lit 1)), .ex (.bin .add .i64 (.var 17) (.lit 1))])
 (.ret [.bx (.lit false)]))
 (.br (.cmp .geq (.bin .sub .i64 (.var 19) (.lit 4)) (.lit 4))
 (.br (.cmp .eql (.lit (-1)) (.var 17))
 (.back 0 16 [.ex (.bin .add .i64 (.var 16) (.lit 1)), .ex (.bin .add .i64 (.var 17) (.lit 1))])
 (.ret [.bx (.lit false)]))
 (.call 2 [.ex (.var 0), .ex (.var 1), .ex (.var 2), .ex (.var 3), .ex (.var 4), .ex (.var 5), .ex (.var 6), .ex (.var 7), .ex (.var 8), .ex (.var 9), .ex (.var 10), .ex (.var 11), .ex (.var 12), .ex (.var 18), .ex (.bin .add .i64 (.lit 4) (.bin .sub .i64 (.var 19) (.lit 4)))] (.br (.cmp .eql (.var 22) (.var 17))
 (.back 0 16 [.ex (.bin .add .i64 (.var 16) (.lit 1)), .ex (.bin .add .i64 (.var 17) (.lit 1))])
 (.ret [.bx (.lit false)])))))
 (.back 0 16 [.ex (.bin .add .i64 (.var 16) (.lit 1)), .ex (.bin .add .i64 (.var 17) (.lit 1))]))
 (.ret [.bx (.lit false)])))
 (.back 0 16 [.ex (.var 16), .ex (.bin .add .i64 (.var 17) (.lit 1))])))
 (.callm 3 [.ex (.var 3), .ex (.var 4), .ex (.var 5), .ex (.var 6), .ex (.var 7), .ex (.var 8), .ex (.var 9), .ex (.var 10), .ex (.var 11), .ex (.var 12)] (.loop 1 21 [.ex (.lit 0)] tTApartL0)))
def tTApart : Tree := (.call 4 [] (.call 0 [.ex (.var 0), .ex (.var 1), .ex (.var 2), .ex (.var 3), .ex (.var 4), .ex (.var 5), .ex (.var 6), .ex (.var 7), .ex (.var 8), .ex (.var 9), .ex (.var 10), .ex (.var 11), .ex (.var 12), .ex (.var 13)] (.br (.cmp .eql (.var 15) (.lit 0))
 (.br (.cmp .lss (.var 13) (.lit 1))
 (.ret [.bx (.lit false)])
 (.br (.cmp .gtr (.var 13) (.lit 4096))
 (.ret [.bx (.lit false)])
 (.br (.cmp .gtr (.var 5) (.lit 128))
 (.ret [.bx (.lit false)])
 (.br (.cmp .gtr (.var 2) (.lit 4))
 (.ret [.bx (.lit false)])
 (.br (.cmp .gtr (.var 11) (.lit 64))
 (.ret [.bx (.lit false)])
 (.loop 0 16 [.ex (.lit 0), .ex (.lit 0)] tTApartL1))))))
 (.ret [.bx (.var 14)]))))
theorem rTApart : runCtr { (cxPh Try.prog) with hints := hsTApart } 20 cTApart [] [] = tTApart := by kernel_rfl

end Go.Proofs.Ytbmbiiiacajolaa
