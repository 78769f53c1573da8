/- The ways of the runs, as a program of ours printed them. -/
import Derived.Test.YtjohihkbampbgaaGx
import Derived.KernelRfl
namespace Go.Proofs.Ytjohihkbampbgaa
set_option linter.unusedVariables false
set_option linter.unusedSimpArgs false
set_option linter.unusedSectionVars false
open Go
set_option maxRecDepth 100000

def hsEnds0 : List (Nat × Nat × List Nat) := []
def tEnds0 : Tree := (.br (.cmp .geq (.var 18) (.lit 0))
 (.br (.cmp .lss (.bin .sub .i64 (.var 5) (.var 18)) (.var 4))
 (.call 16 [.var 0] (.br (.cmp .eql (.var 21) (.lit 0))
 (.ret [.var 20, .bx (.lit false)])
 (.br (.cmp .eql (.var 21) (.lit 13))
 (.ret [.var 20, .bx (.cmp .eql (.var 19) (.var 18))])
 (.ret [.var 20, .bx (.lit false)]))))
 (.call 16 [.var 0] (.br (.cmp .eql (.var 21) (.lit 0))
 (.br (.cmp .lss (.var 5) (.var 18))
 (.ret [.var 20, .bx (.lit false)])
 (.ret [.var 20, .bx (.cmp .eql (.var 19) (.var 5))]))
 (.br (.cmp .eql (.var 21) (.lit 13))
 (.br (.cmp .lss (.var 5) (.var 18))
 (.ret [.var 20, .bx (.cmp .eql (.var 19) (.var 18))])
 (.ret [.var 20, .bx (.lit false)]))
 (.ret [.var 20, .bx (.lit false)])))))
 (.call 16 [.var 0] (.br (.cmp .eql (.var 21) (.lit 0))
 (.ret [.var 20, .bx (.cmp .eql (.var 19) (.var 5))])
 (.br (.cmp .eql (.var 21) (.lit 13))
 (.ret [.var 20, .bx (.lit false)])
 (.ret [.var 20, .bx (.lit false)])))))
theorem rEnds0 : runCtr { (cxE Try.prog) with hints := hsEnds0 } 20 cEnds0 [] [] = tEnds0 := by kernel_rfl

def hsEnds1 : List (Nat × Nat × List Nat) := []
def tEnds1 : Tree := (.br (.cmp .geq (.var 18) (.lit 0))
 (.br (.cmp .lss (.bin .sub .i64 (.var 10) (.var 18)) (.var 9))
 (.call 16 [.var 1] (.br (.cmp .eql (.var 21) (.lit 0))
 (.ret [.var 20, .bx (.lit false)])
 (.br (.cmp .eql (.var 21) (.lit 13))
 (.ret [.var 20, .bx (.cmp .eql (.var 19) (.var 18))])
 (.ret [.var 20, .bx (.lit false)]))))
 (.call 16 [.var 1] (.br (.cmp .eql (.var 21) (.lit 0))
 (.br (.cmp .lss (.var 10) (.var 18))
 (.ret [.var 20, .bx (.lit false)])
 (.ret [.var 20, .bx (.cmp .eql (.var 19) (.var 10))]))
 (.br (.cmp .eql (.var 21) (.lit 13))
 (.br (.cmp .lss (.var 10) (.var 18))
 (.ret [.var 20, .bx (.cmp .eql (.var 19) (.var 18))])
 (.ret [.var 20, .bx (.lit false)]))
 (.ret [.var 20, .bx (.lit false)])))))
 (.call 16 [.var 1] (.br (.cmp .eql (.var 21) (.lit 0))
 (.ret [.var 20, .bx (.cmp .eql (.var 19) (.var 10))])
 (.br (.cmp .eql (.var 21) (.lit 13))
 (.ret [.var 20, .bx (.lit false)])
 (.ret [.var 20, .bx (.lit false)])))))
theorem rEnds1 : runCtr { (cxE Try.prog) with hints := hsEnds1 } 20 cEnds1 [] [] = tEnds1 := by kernel_rfl

def hsEnds2 : List (Nat × Nat × List Nat) := []
def tEnds2 : Tree := (.br (.cmp .geq (.var 18) (.lit 0))
 (.br (.cmp .lss (.bin .sub .i64 (.var 15) (.var 18)) (.var 14))
 (.call 16 [.var 2] (.br (.cmp .eql (.var 21) (.lit 0))
 (.ret [.var 20, .bx (.lit false)])
 (.br (.cmp .eql (.var 21) (.lit 13))
 (.ret [.var 20, .bx (.cmp .eql (.var 19) (.var 18))])
 (.ret [.var 20, .bx (.lit false)]))))
 (.call 16 [.var 2] (.br (.cmp .eql (.var 21) (.lit 0))
 (.br (.cmp .lss (.var 15) (.var 18))
 (.ret [.var 20, .bx (.lit false)])
 (.ret [.var 20, .bx (.cmp .eql (.var 19) (.var 15))]))
 (.br (.cmp .eql (.var 21) (.lit 13))
 (.br (.cmp .lss (.var 15) (.var 18))
 (.ret [.var 20, .bx (.cmp .eql (.var 19) (.var 18))])
 (.ret [.var 20, .bx (.lit false)]))
 (.ret [.var 20, .bx (.lit false)])))))
 (.call 16 [.var 2] (.br (.cmp .eql (.var 21) (.lit 0))
 (.ret [.var 20, .bx (.cmp .eql (.var 19) (.var 15))])
 (.br (.cmp .eql (.var 21) (.lit 13))
 (.ret [.var 20, .bx (.lit false)])
 (.ret [.var 20, .bx (.lit false)])))))
theorem rEnds2 : runCtr { (cxE Try.prog) with hints := hsEnds2 } 20 cEnds2 [] [] = tEnds2 := by kernel_rfl

end Go.Proofs.Ytjohihkbampbgaa
