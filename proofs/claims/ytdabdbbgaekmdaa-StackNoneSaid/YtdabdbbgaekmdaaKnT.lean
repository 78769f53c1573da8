/- The ways of the runs, as a program of ours printed them. -/
import Derived.Test.YtdabdbbgaekmdaaKn
import Derived.KernelRfl
namespace Go.Proofs.Ytdabdbbgaekmdaa
set_option linter.unusedVariables false
set_option linter.unusedSimpArgs false
set_option linter.unusedSectionVars false
open Go
set_option maxRecDepth 100000

def hsSFillNil : List (Nat × Nat × List Nat) := []
def tSFillNilL0 : Tree := (.br (.cmp .lss (.var 5) (.var 2))
 (.br (.cmp .eql (.bin .add .i64 (.var 5) (.lit 1)) (.var 2))
 (.and (.call 10 [.ex (.lit (-1)), .ex (.lit 0)] (.and (.back 0 5 [.ex (.bin .add .i64 (.var 5) (.lit 1))]) .ok)) .ok)
 (.and (.call 10 [.ex (.bin .add .i64 (.var 5) (.lit 1)), .ex (.lit 0)] (.and (.back 0 5 [.ex (.bin .add .i64 (.var 5) (.lit 1))]) .ok)) .ok))
 (.ret []))
def tSFillNil : Tree := (.br (.cmp .geq (.var 2) (.lit 1))
 (.br (.cmp .leq (.var 2) (.lit 4096))
 (.and (.call 10 [.ex (.lit 0), .ex (.lit 0)] (.and (.loop 0 5 [.ex (.lit 0)] tSFillNilL0) .ok)) .ok)
 (.ret []))
 (.ret []))
theorem rSFillNil : runCtr { (cxKL Try.prog lSFillNil) with hints := hsSFillNil } 20 cSFillNil [] [] = tSFillNil := by kernel_rfl

def hsSNone : List (Nat × Nat × List Nat) := [(146, 2, [15, 29])]
def tSNone : Tree := (.br (.cmp .gtr (.var 2) (.lit 100))
 (.call 9 [] (.ret [.bx (.var 4)]))
 (.call 3 [.ex (.lit 9)] (.br (.cmp .eql (.var 5) (.lit 0))
 (.br (.isnil 4)
 (.ret [.bx (.lit false)])
 (.br (.cmp .lss (.var 3) (.lit 0))
 (.call 5 [.var 4] (.br (.cmp .eql (.var 7) (.lit 0))
 (.call 9 [] (.ret [.bx (.var 8)]))
 (.ret [.bx (.lit false)])))
 (.br (.cmp .geq (.var 3) (.var 2))
 (.call 5 [.var 4] (.br (.cmp .eql (.var 7) (.lit 0))
 (.call 9 [] (.ret [.bx (.var 8)]))
 (.ret [.bx (.lit false)])))
 (.call 10 [.ex (.var 0), .ex (.var 1), .ex (.var 2)] (.and (.and (.and (.and (.br (.cmp .geq (.lit (-1)) (.var 2))
 (.and (.and (.rng (.and (.br (.cmp .lss (.var 0) (.lit 0))
 (.and (.and (.and (.and (.call 5 [.var 4] (.br (.cmp .eql (.var 8) (.lit 0))
 (.call 9 [] (.ret [.bx (.var 9)]))
 (.ret [.bx (.lit false)]))) .ok) .ok) .ok) .ok)
 (.and (.and (.and (.and (.call 5 [.var 4] (.br (.cmp .eql (.var 8) (.lit 0))
 (.call 9 [] (.ret [.bx (.var 9)]))
 (.ret [.bx (.lit false)]))) .ok) .ok) .ok) .ok)) .ok)) .ok) .ok)
 (.and (.and (.rng (.and (.br (.cmp .lss (.var 0) (.lit 0))
 (.and (.and (.and (.and (.call 5 [.var 4] (.br (.cmp .eql (.var 8) (.lit 0))
 (.call 9 [] (.ret [.bx (.var 9)]))
 (.ret [.bx (.lit false)]))) .ok) .ok) .ok) .ok)
 (.and (.and (.and (.and (.call 5 [.var 4] (.br (.cmp .eql (.var 8) (.lit 0))
 (.call 9 [] (.ret [.bx (.var 9)]))
 (.ret [.bx (.lit false)]))) .ok) .ok) .ok) .ok)) .ok)) .ok) .ok)) .ok) .ok) .ok) .ok)))))
 (.ret [.bx (.lit false)]))))
theorem rSNone : runCtr { (cx Try.prog ctsSN) with hints := hsSNone } 20 cSNone [] [] = tSNone := by kernel_rfl

end Go.Proofs.Ytdabdbbgaekmdaa
