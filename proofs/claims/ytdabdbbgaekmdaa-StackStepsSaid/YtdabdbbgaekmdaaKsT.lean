/- The ways of the runs, as a program of ours printed them. -/
import Derived.Test.YtdabdbbgaekmdaaKs
import Derived.KernelRfl
namespace Go.Proofs.Ytdabdbbgaekmdaa
set_option linter.unusedVariables false
set_option linter.unusedSimpArgs false
set_option linter.unusedSectionVars false
open Go
set_option maxRecDepth 100000

def hsToldS : List (Nat × Nat × List Nat) := [(41, 2, [7, 8]), (41, 7, [7, 8]), (41, 10, [7, 8])]
def tToldS : Tree := (.br (.isnil 1)
 (.br (.isnil 3)
 (.br (.isnil 5)
 (.ret [.var 0, .var 1, .var 2, .var 3, .var 4, .var 5, .var 6, .var 7, .ex (.var 8), .ex (.var 9), .ex (.var 10), .ex (.var 11), .ex (.var 12), .bx (.var 13), .ex (.var 14), .bx (.lit true)])
 (.br (.var 15)
 (.and (.call 8 [.var 4, .var 6] (.and (.call 9 [.var 5, .var 7, .ex (.var 8), .ex (.var 9), .ex (.var 10), .ex (.var 11), .ex (.var 12), .bx (.var 13), .ex (.var 14)] (.call 10 [.var 16] (.call 11 [.var 19] (.br (.beq (.var 18) (.var 28))
 (.br (.cmp .eql (.var 30) (.var 33))
 (.ret [.var 0, .var 1, .var 2, .var 3, .var 29, .var 32, .var 17, .var 20, .ex (.var 21), .ex (.var 22), .ex (.var 23), .ex (.var 24), .ex (.var 25), .bx (.var 26), .ex (.var 27), .bx (.cmp .eql (.var 31) (.var 34))])
 (.ret [.var 0, .var 1, .var 2, .var 3, .var 29, .var 32, .var 17, .var 20, .ex (.var 21), .ex (.var 22), .ex (.var 23), .ex (.var 24), .ex (.var 25), .bx (.var 26), .ex (.var 27), .bx (.lit false)]))
 (.ret [.var 0, .var 1, .var 2, .var 3, .var 29, .var 32, .var 17, .var 20, .ex (.var 21), .ex (.var 22), .ex (.var 23), .ex (.var 24), .ex (.var 25), .bx (.var 26), .ex (.var 27), .bx (.lit false)]))))) .ok)) .ok)
 (.call 10 [.var 4] (.call 11 [.var 5] (.br (.cmp .eql (.var 17) (.var 20))
 (.ret [.var 0, .var 1, .var 2, .var 3, .var 16, .var 19, .var 6, .var 7, .ex (.var 8), .ex (.var 9), .ex (.var 10), .ex (.var 11), .ex (.var 12), .bx (.var 13), .ex (.var 14), .bx (.cmp .eql (.var 18) (.var 21))])
 (.ret [.var 0, .var 1, .var 2, .var 3, .var 16, .var 19, .var 6, .var 7, .ex (.var 8), .ex (.var 9), .ex (.var 10), .ex (.var 11), .ex (.var 12), .bx (.var 13), .ex (.var 14), .bx (.lit false)]))))))
 (.br (.var 15)
 (.and (.call 4 [.var 2, .var 6] (.and (.call 5 [.var 3, .var 7, .ex (.var 8), .ex (.var 9), .ex (.var 10), .ex (.var 11), .ex (.var 12), .bx (.var 13), .ex (.var 14)] (.br (.beq (.var 18) (.var 28))
 (.and (.call 6 [.var 16] (.and (.call 7 [.var 19] (.ret [.var 0, .var 1, .var 29, .var 31, .var 4, .var 5, .var 17, .var 20, .ex (.var 21), .ex (.var 22), .ex (.var 23), .ex (.var 24), .ex (.var 25), .bx (.var 26), .ex (.var 27), .bx (.cmp .eql (.var 30) (.var 32))])) .ok)) .ok)
 (.ret [.var 0, .var 1, .var 16, .var 19, .var 4, .var 5, .var 17, .var 20, .ex (.var 21), .ex (.var 22), .ex (.var 23), .ex (.var 24), .ex (.var 25), .bx (.var 26), .ex (.var 27), .bx (.lit false)]))) .ok)) .ok)
 (.and (.call 6 [.var 2] (.and (.call 7 [.var 3] (.ret [.var 0, .var 1, .var 16, .var 18, .var 4, .var 5, .var 6, .var 7, .ex (.var 8), .ex (.var 9), .ex (.var 10), .ex (.var 11), .ex (.var 12), .bx (.var 13), .ex (.var 14), .bx (.cmp .eql (.var 17) (.var 19))])) .ok)) .ok)))
 (.br (.var 15)
 (.and (.call 0 [.var 0, .var 6] (.and (.call 1 [.var 1, .var 7, .ex (.var 8), .ex (.var 9), .ex (.var 10), .ex (.var 11), .ex (.var 12), .bx (.var 13), .ex (.var 14)] (.call 2 [.var 16] (.call 3 [.var 19] (.br (.beq (.var 18) (.var 28))
 (.br (.cmp .eql (.var 30) (.var 33))
 (.ret [.var 29, .var 32, .var 2, .var 3, .var 4, .var 5, .var 17, .var 20, .ex (.var 21), .ex (.var 22), .ex (.var 23), .ex (.var 24), .ex (.var 25), .bx (.var 26), .ex (.var 27), .bx (.cmp .eql (.var 31) (.var 34))])
 (.ret [.var 29, .var 32, .var 2, .var 3, .var 4, .var 5, .var 17, .var 20, .ex (.var 21), .ex (.var 22), .ex (.var 23), .ex (.var 24), .ex (.var 25), .bx (.var 26), .ex (.var 27), .bx (.lit false)]))
 (.ret [.var 29, .var 32, .var 2, .var 3, .var 4, .var 5, .var 17, .var 20, .ex (.var 21), .ex (.var 22), .ex (.var 23), .ex (.var 24), .ex (.var 25), .bx (.var 26), .ex (.var 27), .bx (.lit false)]))))) .ok)) .ok)
 (.call 2 [.var 0] (.call 3 [.var 1] (.br (.cmp .eql (.var 17) (.var 20))
 (.ret [.var 16, .var 19, .var 2, .var 3, .var 4, .var 5, .var 6, .var 7, .ex (.var 8), .ex (.var 9), .ex (.var 10), .ex (.var 11), .ex (.var 12), .bx (.var 13), .ex (.var 14), .bx (.cmp .eql (.var 18) (.var 21))])
 (.ret [.var 16, .var 19, .var 2, .var 3, .var 4, .var 5, .var 6, .var 7, .ex (.var 8), .ex (.var 9), .ex (.var 10), .ex (.var 11), .ex (.var 12), .bx (.var 13), .ex (.var 14), .bx (.lit false)]))))))
theorem rToldS : runCtr { (cx Try.prog ctsKO) with hints := hsToldS } 20 cToldS [] [] = tToldS := by kernel_rfl

def hsToldS1 : List (Nat × Nat × List Nat) := [(41, 2, [3, 4])]
def tToldS1 : Tree := (.br (.isnil 1)
 (.ret [.var 0, .var 1, .var 2, .var 3, .ex (.var 4), .ex (.var 5), .ex (.var 6), .ex (.var 7), .ex (.var 8), .bx (.var 9), .ex (.var 10), .bx (.lit true)])
 (.br (.var 11)
 (.and (.call 0 [.var 0, .var 2] (.and (.call 1 [.var 1, .var 3, .ex (.var 4), .ex (.var 5), .ex (.var 6), .ex (.var 7), .ex (.var 8), .bx (.var 9), .ex (.var 10)] (.call 2 [.var 12] (.call 3 [.var 15] (.br (.beq (.var 14) (.var 24))
 (.br (.cmp .eql (.var 26) (.var 29))
 (.ret [.var 25, .var 28, .var 13, .var 16, .ex (.var 17), .ex (.var 18), .ex (.var 19), .ex (.var 20), .ex (.var 21), .bx (.var 22), .ex (.var 23), .bx (.cmp .eql (.var 27) (.var 30))])
 (.ret [.var 25, .var 28, .var 13, .var 16, .ex (.var 17), .ex (.var 18), .ex (.var 19), .ex (.var 20), .ex (.var 21), .bx (.var 22), .ex (.var 23), .bx (.lit false)]))
 (.ret [.var 25, .var 28, .var 13, .var 16, .ex (.var 17), .ex (.var 18), .ex (.var 19), .ex (.var 20), .ex (.var 21), .bx (.var 22), .ex (.var 23), .bx (.lit false)]))))) .ok)) .ok)
 (.call 2 [.var 0] (.call 3 [.var 1] (.br (.cmp .eql (.var 13) (.var 16))
 (.ret [.var 12, .var 15, .var 2, .var 3, .ex (.var 4), .ex (.var 5), .ex (.var 6), .ex (.var 7), .ex (.var 8), .bx (.var 9), .ex (.var 10), .bx (.cmp .eql (.var 14) (.var 17))])
 (.ret [.var 12, .var 15, .var 2, .var 3, .ex (.var 4), .ex (.var 5), .ex (.var 6), .ex (.var 7), .ex (.var 8), .bx (.var 9), .ex (.var 10), .bx (.lit false)]))))))
theorem rToldS1 : runCtr { (cx Try.prog ctsKO) with hints := hsToldS1 } 20 cToldS1 [] [] = tToldS1 := by kernel_rfl

def hsToldS2 : List (Nat × Nat × List Nat) := [(41, 7, [3, 4])]
def tToldS2 : Tree := (.br (.isnil 1)
 (.ret [.var 0, .var 1, .var 2, .var 3, .ex (.var 4), .ex (.var 5), .ex (.var 6), .ex (.var 7), .ex (.var 8), .bx (.var 9), .ex (.var 10), .bx (.lit true)])
 (.br (.var 11)
 (.and (.call 4 [.var 0, .var 2] (.and (.call 5 [.var 1, .var 3, .ex (.var 4), .ex (.var 5), .ex (.var 6), .ex (.var 7), .ex (.var 8), .bx (.var 9), .ex (.var 10)] (.br (.beq (.var 14) (.var 24))
 (.and (.call 6 [.var 12] (.and (.call 7 [.var 15] (.ret [.var 25, .var 27, .var 13, .var 16, .ex (.var 17), .ex (.var 18), .ex (.var 19), .ex (.var 20), .ex (.var 21), .bx (.var 22), .ex (.var 23), .bx (.cmp .eql (.var 26) (.var 28))])) .ok)) .ok)
 (.ret [.var 12, .var 15, .var 13, .var 16, .ex (.var 17), .ex (.var 18), .ex (.var 19), .ex (.var 20), .ex (.var 21), .bx (.var 22), .ex (.var 23), .bx (.lit false)]))) .ok)) .ok)
 (.and (.call 6 [.var 0] (.and (.call 7 [.var 1] (.ret [.var 12, .var 14, .var 2, .var 3, .ex (.var 4), .ex (.var 5), .ex (.var 6), .ex (.var 7), .ex (.var 8), .bx (.var 9), .ex (.var 10), .bx (.cmp .eql (.var 13) (.var 15))])) .ok)) .ok)))
theorem rToldS2 : runCtr { (cx Try.prog ctsKO) with hints := hsToldS2 } 20 cToldS2 [] [] = tToldS2 := by kernel_rfl

def hsToldS3 : List (Nat × Nat × List Nat) := [(41, 10, [3, 4])]
def tToldS3 : Tree := (.br (.isnil 1)
 (.ret [.var 0, .var 1, .var 2, .var 3, .ex (.var 4), .ex (.var 5), .ex (.var 6), .ex (.var 7), .ex (.var 8), .bx (.var 9), .ex (.var 10), .bx (.lit true)])
 (.br (.var 11)
 (.and (.call 8 [.var 0, .var 2] (.and (.call 9 [.var 1, .var 3, .ex (.var 4), .ex (.var 5), .ex (.var 6), .ex (.var 7), .ex (.var 8), .bx (.var 9), .ex (.var 10)] (.call 10 [.var 12] (.call 11 [.var 15] (.br (.beq (.var 14) (.var 24))
 (.br (.cmp .eql (.var 26) (.var 29))
 (.ret [.var 25, .var 28, .var 13, .var 16, .ex (.var 17), .ex (.var 18), .ex (.var 19), .ex (.var 20), .ex (.var 21), .bx (.var 22), .ex (.var 23), .bx (.cmp .eql (.var 27) (.var 30))])
 (.ret [.var 25, .var 28, .var 13, .var 16, .ex (.var 17), .ex (.var 18), .ex (.var 19), .ex (.var 20), .ex (.var 21), .bx (.var 22), .ex (.var 23), .bx (.lit false)]))
 (.ret [.var 25, .var 28, .var 13, .var 16, .ex (.var 17), .ex (.var 18), .ex (.var 19), .ex (.var 20), .ex (.var 21), .bx (.var 22), .ex (.var 23), .bx (.lit false)]))))) .ok)) .ok)
 (.call 10 [.var 0] (.call 11 [.var 1] (.br (.cmp .eql (.var 13) (.var 16))
 (.ret [.var 12, .var 15, .var 2, .var 3, .ex (.var 4), .ex (.var 5), .ex (.var 6), .ex (.var 7), .ex (.var 8), .bx (.var 9), .ex (.var 10), .bx (.cmp .eql (.var 14) (.var 17))])
 (.ret [.var 12, .var 15, .var 2, .var 3, .ex (.var 4), .ex (.var 5), .ex (.var 6), .ex (.var 7), .ex (.var 8), .bx (.var 9), .ex (.var 10), .bx (.lit false)]))))))
theorem rToldS3 : runCtr { (cx Try.prog ctsKO) with hints := hsToldS3 } 20 cToldS3 [] [] = tToldS3 := by kernel_rfl

end Go.Proofs.Ytdabdbbgaekmdaa
