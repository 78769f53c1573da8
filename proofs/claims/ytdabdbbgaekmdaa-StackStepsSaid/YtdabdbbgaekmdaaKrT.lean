/- The ways of the runs, as a program of ours printed them. -/
import Derived.Test.YtdabdbbgaekmdaaKr
import Derived.KernelRfl
namespace Go.Proofs.Ytdabdbbgaekmdaa
set_option linter.unusedVariables false
set_option linter.unusedSimpArgs false
set_option linter.unusedSectionVars false
open Go
set_option maxRecDepth 100000

def hsRSFill : List (Nat × Nat × List Nat) := []
def tRSFillL0 : Tree := (.br (.cmp .lss (.var 27) (.bin .sub .i64 (.var 10) (.lit 1)))
 (.call 1 [.var 19, .ex (.var 20), .ex (.var 21), .ex (.var 22), .ex (.var 23), .ex (.var 24), .bx (.var 25), .ex (.var 26), .ex (.bin .add .i64 (.var 9) (.var 27)), .ex (.conv .u64 (.bin .add .i64 (.var 27) (.lit 2)))] (.back 0 19 [.var 28, .ex (.var 29), .ex (.var 30), .ex (.var 31), .ex (.var 32), .ex (.var 33), .bx (.var 34), .ex (.var 35), .ex (.bin .add .i64 (.var 27) (.lit 1))]))
 (.call 1 [.var 19, .ex (.var 20), .ex (.var 21), .ex (.var 22), .ex (.var 23), .ex (.var 24), .bx (.var 25), .ex (.var 26), .ex (.bin .sub .i64 (.bin .add .i64 (.var 9) (.var 10)) (.lit 1)), .ex (.lit 0)] (.ret [.var 28, .ex (.var 29), .ex (.var 30), .ex (.var 31), .ex (.var 32), .ex (.var 33), .bx (.var 34), .ex (.var 35)])))
def tRSFill : Tree := (.br (.cmp .lss (.var 10) (.lit 1))
 (.ret [.var 0, .ex (.var 1), .ex (.var 2), .ex (.var 3), .ex (.var 4), .ex (.var 5), .bx (.var 6), .ex (.var 7)])
 (.br (.cmp .gtr (.var 10) (.lit 4096))
 (.ret [.var 0, .ex (.var 1), .ex (.var 2), .ex (.var 3), .ex (.var 4), .ex (.var 5), .bx (.var 6), .ex (.var 7)])
 (.call 1 [.var 0, .ex (.var 1), .ex (.var 2), .ex (.var 3), .ex (.var 4), .ex (.var 5), .bx (.var 6), .ex (.var 7), .ex (.var 8), .ex (.lit 1)] (.loop 0 19 [.var 11, .ex (.var 12), .ex (.var 13), .ex (.var 14), .ex (.var 15), .ex (.var 16), .bx (.var 17), .ex (.var 18), .ex (.lit 0)] tRSFillL0))))
theorem rRSFill : runCtr { (cxKR2 Try.prog lRSFill) with hints := hsRSFill } 20 cRSFill [] [] = tRSFill := by kernel_rfl

def hsRChain : List (Nat × Nat × List Nat) := [(42, 2, [0, 1]), (42, 4, [0, 1])]
def tRChainL0 : Tree := (.br (.cmp .geq (.var 29) (.lit 0))
 (.need (.cmp .leq (.lit 0) (.var 30)) (.br (.cmp .lss (.var 30) (.var 10))
 (.need (.cmp .leq (.lit 0) (.var 30)) (.need (.cmp .leq (.var 30) (.var 32)) (.need (.cmp .leq (.var 32) (.len 31)) (.need (.cmp .leq (.len 31) (.var 32)) (.need (.cmp .leq (.var 30) (.lit 1000000)) (.app (some 31) (.var 30) (.var 29) (.and (.call 3 [.var 21, .ex (.var 22), .ex (.var 23), .ex (.var 24), .ex (.var 25), .ex (.var 26), .bx (.var 27), .ex (.var 28), .ex (.bin .add .i64 (.var 9) (.var 29))] (.and (.call 4 [.ex (.var 8), .ex (.var 9), .ex (.var 10), .ex (.var 43)] (.back 0 21 [.var 35, .ex (.var 36), .ex (.var 37), .ex (.var 38), .ex (.var 39), .ex (.var 40), .bx (.var 41), .ex (.var 42), .ex (.var 44), .ex (.bin .add .i64 (.var 30) (.lit 1)), .var 33, .ex (.var 34)])) .ok)) .ok)))))))
 (.ret [.var 21, .ex (.var 22), .ex (.var 23), .ex (.var 24), .ex (.var 25), .ex (.var 26), .bx (.var 27), .ex (.var 28), .var 31, .ex (.var 30), .ex (.var 32)])))
 (.ret [.var 21, .ex (.var 22), .ex (.var 23), .ex (.var 24), .ex (.var 25), .ex (.var 26), .bx (.var 27), .ex (.var 28), .var 31, .ex (.var 30), .ex (.var 32)]))
def tRChain : Tree := (.and (.call 3 [.var 0, .ex (.var 1), .ex (.var 2), .ex (.var 3), .ex (.var 4), .ex (.var 5), .bx (.var 6), .ex (.var 7), .ex (.var 8)] (.and (.call 4 [.ex (.var 8), .ex (.var 9), .ex (.var 10), .ex (.var 19)] (.ext (.lst []) (.loop 0 21 [.var 11, .ex (.var 12), .ex (.var 13), .ex (.var 14), .ex (.var 15), .ex (.var 16), .bx (.var 17), .ex (.var 18), .ex (.var 20), .ex (.lit 0), .var 21, .ex (.lit 0)] tRChainL0))) .ok)) .ok)
theorem rRChain : runCtr { (cxKR2 Try.prog lRChain) with hints := hsRChain } 20 cRChain [] [] = tRChain := by kernel_rfl

def hsRPoStep : List (Nat × Nat × List Nat) := [(90, 4, [0]), (90, 9, [1, 2, 0]), (90, 13, [1, 2])]
def tRPoStep : Tree := (.and (.opn 0 11 (.br (.cmp .eql (.var 12) (.lit 1))
 (.call 0 [.var 1, .ex (.var 2), .ex (.var 3), .ex (.var 4), .ex (.var 5), .ex (.var 6), .bx (.var 7), .ex (.var 8), .ex (.var 9)] (.and (.and (.and (.call 4 [.ex (.var 9), .ex (.var 10), .ex (.var 11), .ex (.var 24)] (.and (.br (.cmp .lss (.var 25) (.lit 0))
 (.ext (.mk 11 [.ex (.var 9), .ex (.var 10), .ex (.var 11), .ex (.lit 9), .ex (.var 24), .ex (.var 25), .ex (.var 15)]) (.ret [.var 26, .var 16, .ex (.var 17), .ex (.var 18), .ex (.var 19), .ex (.var 20), .ex (.var 21), .bx (.var 22), .ex (.var 23), .bx (.lit true)]))
 (.ext (.mk 11 [.ex (.var 9), .ex (.var 10), .ex (.var 11), .ex (.lit 2), .ex (.var 24), .ex (.var 25), .ex (.var 15)]) (.ret [.var 26, .var 16, .ex (.var 17), .ex (.var 18), .ex (.var 19), .ex (.var 20), .ex (.var 21), .bx (.var 22), .ex (.var 23), .bx (.lit false)]))) .ok)) .ok) .ok)
 (.and (.and (.and (.call 4 [.ex (.var 9), .ex (.var 10), .ex (.var 11), .ex (.var 24)] (.and (.br (.cmp .lss (.var 25) (.lit 0))
 (.ext (.mk 11 [.ex (.var 9), .ex (.var 10), .ex (.var 11), .ex (.lit 9), .ex (.var 24), .ex (.var 25), .ex (.var 15)]) (.ret [.var 26, .var 16, .ex (.var 17), .ex (.var 18), .ex (.var 19), .ex (.var 20), .ex (.var 21), .bx (.var 22), .ex (.var 23), .bx (.lit true)]))
 (.ext (.mk 11 [.ex (.var 9), .ex (.var 10), .ex (.var 11), .ex (.lit 2), .ex (.var 24), .ex (.var 25), .ex (.var 15)]) (.ret [.var 26, .var 16, .ex (.var 17), .ex (.var 18), .ex (.var 19), .ex (.var 20), .ex (.var 21), .bx (.var 22), .ex (.var 23), .bx (.lit false)]))) .ok)) .ok) .ok) .ok)))
 (.br (.cmp .eql (.var 12) (.lit 2))
 (.and (.and (.and (.and (.call 0 [.var 1, .ex (.var 2), .ex (.var 3), .ex (.var 4), .ex (.var 5), .ex (.var 6), .bx (.var 7), .ex (.var 8), .ex (.bin .add .i64 (.var 10) (.var 14))] (.and (.call 4 [.ex (.var 9), .ex (.var 10), .ex (.var 11), .ex (.var 24)] (.and (.ext (.mk 11 [.ex (.var 9), .ex (.var 10), .ex (.var 11), .ex (.lit 3), .ex (.var 13), .ex (.var 14), .ex (.var 25)]) (.ret [.var 26, .var 16, .ex (.var 17), .ex (.var 18), .ex (.var 19), .ex (.var 20), .ex (.var 21), .bx (.var 22), .ex (.var 23), .bx (.lit false)])) .ok)) .ok)) .ok) .ok)
 (.and (.and (.and (.call 0 [.var 1, .ex (.var 2), .ex (.var 3), .ex (.var 4), .ex (.var 5), .ex (.var 6), .bx (.var 7), .ex (.var 8), .ex (.bin .add .i64 (.var 10) (.var 14))] (.and (.call 4 [.ex (.var 9), .ex (.var 10), .ex (.var 11), .ex (.var 24)] (.and (.ext (.mk 11 [.ex (.var 9), .ex (.var 10), .ex (.var 11), .ex (.lit 3), .ex (.var 13), .ex (.var 14), .ex (.var 25)]) (.ret [.var 26, .var 16, .ex (.var 17), .ex (.var 18), .ex (.var 19), .ex (.var 20), .ex (.var 21), .bx (.var 22), .ex (.var 23), .bx (.lit false)])) .ok)) .ok)) .ok) .ok) .ok))
 (.and (.and (.and (.and (.call 0 [.var 1, .ex (.var 2), .ex (.var 3), .ex (.var 4), .ex (.var 5), .ex (.var 6), .bx (.var 7), .ex (.var 8), .ex (.bin .add .i64 (.var 10) (.var 14))] (.and (.call 4 [.ex (.var 9), .ex (.var 10), .ex (.var 11), .ex (.var 24)] (.and (.ext (.mk 11 [.ex (.var 9), .ex (.var 10), .ex (.var 11), .ex (.lit 3), .ex (.var 13), .ex (.var 14), .ex (.var 25)]) (.ret [.var 26, .var 16, .ex (.var 17), .ex (.var 18), .ex (.var 19), .ex (.var 20), .ex (.var 21), .bx (.var 22), .ex (.var 23), .bx (.lit false)])) .ok)) .ok)) .ok) .ok)
 (.and (.and (.and (.call 0 [.var 1, .ex (.var 2), .ex (.var 3), .ex (.var 4), .ex (.var 5), .ex (.var 6), .bx (.var 7), .ex (.var 8), .ex (.bin .add .i64 (.var 10) (.var 14))] (.and (.call 4 [.ex (.var 9), .ex (.var 10), .ex (.var 11), .ex (.var 24)] (.and (.ext (.mk 11 [.ex (.var 9), .ex (.var 10), .ex (.var 11), .ex (.lit 3), .ex (.var 13), .ex (.var 14), .ex (.var 25)]) (.ret [.var 26, .var 16, .ex (.var 17), .ex (.var 18), .ex (.var 19), .ex (.var 20), .ex (.var 21), .bx (.var 22), .ex (.var 23), .bx (.lit false)])) .ok)) .ok)) .ok)
 (.and (.call 0 [.var 1, .ex (.var 2), .ex (.var 3), .ex (.var 4), .ex (.var 5), .ex (.var 6), .bx (.var 7), .ex (.var 8), .ex (.bin .add .i64 (.var 10) (.var 14))] (.and (.and (.call 4 [.ex (.var 9), .ex (.var 10), .ex (.var 11), .ex (.var 24)] (.and (.ext (.mk 11 [.ex (.var 9), .ex (.var 10), .ex (.var 11), .ex (.lit 3), .ex (.var 13), .ex (.var 14), .ex (.var 25)]) (.ret [.var 26, .var 16, .ex (.var 17), .ex (.var 18), .ex (.var 19), .ex (.var 20), .ex (.var 21), .bx (.var 22), .ex (.var 23), .bx (.lit false)])) .ok)) .ok) .ok)) .ok)) .ok))
 (.and (.and (.and (.and (.call 0 [.var 1, .ex (.var 2), .ex (.var 3), .ex (.var 4), .ex (.var 5), .ex (.var 6), .bx (.var 7), .ex (.var 8), .ex (.bin .add .i64 (.var 10) (.var 14))] (.and (.call 4 [.ex (.var 9), .ex (.var 10), .ex (.var 11), .ex (.var 24)] (.and (.ext (.mk 11 [.ex (.var 9), .ex (.var 10), .ex (.var 11), .ex (.lit 3), .ex (.var 13), .ex (.var 14), .ex (.var 25)]) (.ret [.var 26, .var 16, .ex (.var 17), .ex (.var 18), .ex (.var 19), .ex (.var 20), .ex (.var 21), .bx (.var 22), .ex (.var 23), .bx (.lit false)])) .ok)) .ok)) .ok) .ok)
 (.and (.and (.and (.call 0 [.var 1, .ex (.var 2), .ex (.var 3), .ex (.var 4), .ex (.var 5), .ex (.var 6), .bx (.var 7), .ex (.var 8), .ex (.bin .add .i64 (.var 10) (.var 14))] (.and (.call 4 [.ex (.var 9), .ex (.var 10), .ex (.var 11), .ex (.var 24)] (.and (.ext (.mk 11 [.ex (.var 9), .ex (.var 10), .ex (.var 11), .ex (.lit 3), .ex (.var 13), .ex (.var 14), .ex (.var 25)]) (.ret [.var 26, .var 16, .ex (.var 17), .ex (.var 18), .ex (.var 19), .ex (.var 20), .ex (.var 21), .bx (.var 22), .ex (.var 23), .bx (.lit false)])) .ok)) .ok)) .ok)
 (.and (.call 0 [.var 1, .ex (.var 2), .ex (.var 3), .ex (.var 4), .ex (.var 5), .ex (.var 6), .bx (.var 7), .ex (.var 8), .ex (.bin .add .i64 (.var 10) (.var 14))] (.and (.and (.call 4 [.ex (.var 9), .ex (.var 10), .ex (.var 11), .ex (.var 24)] (.and (.ext (.mk 11 [.ex (.var 9), .ex (.var 10), .ex (.var 11), .ex (.lit 3), .ex (.var 13), .ex (.var 14), .ex (.var 25)]) (.ret [.var 26, .var 16, .ex (.var 17), .ex (.var 18), .ex (.var 19), .ex (.var 20), .ex (.var 21), .bx (.var 22), .ex (.var 23), .bx (.lit false)])) .ok)) .ok) .ok)) .ok)) .ok)) .ok)))
 (.br (.cmp .eql (.var 12) (.lit 3))
 (.and (.call 5 [.ex (.var 15), .ex (.var 13)] (.and (.call 2 [.var 1, .ex (.var 2), .ex (.var 3), .ex (.var 4), .ex (.var 5), .ex (.var 6), .bx (.var 7), .ex (.var 8), .ex (.var 9), .ex (.var 13), .ex (.var 16)] (.br (.var 25)
 (.ext (.mk 11 [.ex (.var 9), .ex (.var 10), .ex (.var 11), .ex (.lit 9), .ex (.var 13), .ex (.var 14), .ex (.var 15)]) (.ret [.var 26, .var 17, .ex (.var 18), .ex (.var 19), .ex (.var 20), .ex (.var 21), .ex (.var 22), .bx (.var 23), .ex (.var 24), .bx (.lit true)]))
 (.ext (.mk 11 [.ex (.var 9), .ex (.var 10), .ex (.var 11), .ex (.lit 1), .ex (.var 13), .ex (.var 14), .ex (.var 15)]) (.ret [.var 26, .var 17, .ex (.var 18), .ex (.var 19), .ex (.var 20), .ex (.var 21), .ex (.var 22), .bx (.var 23), .ex (.var 24), .bx (.lit false)])))) .ok)) .ok)
 (.ext (.mk 11 [.ex (.var 9), .ex (.var 10), .ex (.var 11), .ex (.var 12), .ex (.var 13), .ex (.var 14), .ex (.var 15)]) (.ret [.var 16, .var 1, .ex (.var 2), .ex (.var 3), .ex (.var 4), .ex (.var 5), .ex (.var 6), .bx (.var 7), .ex (.var 8), .bx (.cmp .eql (.var 12) (.lit 9))]))))))
 (.nomore 0 [11]))
theorem rRPoStep : runCtr { (cx Try.prog ctsKR2) with hints := hsRPoStep } 20 cRPoStep [(0,[11])] [(0,[11])] = tRPoStep := by kernel_rfl

def hsRPuStep : List (Nat × Nat × List Nat) := [(92, 6, [1, 2]), (92, 10, [1, 2])]
def tRPuStep : Tree := (.and (.opn 0 18 (.br (.cmp .eql (.var 12) (.lit 1))
 (.call 0 [.var 1, .ex (.var 2), .ex (.var 3), .ex (.var 4), .ex (.var 5), .ex (.var 6), .bx (.var 7), .ex (.var 8), .ex (.var 9)] (.ext (.mk 18 [.ex (.var 9), .ex (.var 10), .ex (.var 11), .ex (.lit 2), .ex (.var 24), .ex (.var 14), .ex (.var 15)]) (.ret [.var 25, .var 16, .ex (.var 17), .ex (.var 18), .ex (.var 19), .ex (.var 20), .ex (.var 21), .bx (.var 22), .ex (.var 23), .bx (.lit false)])))
 (.br (.cmp .eql (.var 12) (.lit 2))
 (.and (.call 4 [.ex (.var 9), .ex (.var 10), .ex (.var 11), .ex (.var 13)] (.and (.call 1 [.var 1, .ex (.var 2), .ex (.var 3), .ex (.var 4), .ex (.var 5), .ex (.var 6), .bx (.var 7), .ex (.var 8), .ex (.bin .add .i64 (.var 10) (.var 14)), .ex (.conv .u64 (.bin .add .i64 (.var 16) (.lit 1)))] (.ext (.mk 18 [.ex (.var 9), .ex (.var 10), .ex (.var 11), .ex (.lit 3), .ex (.var 13), .ex (.var 14), .ex (.var 15)]) (.ret [.var 25, .var 17, .ex (.var 18), .ex (.var 19), .ex (.var 20), .ex (.var 21), .ex (.var 22), .bx (.var 23), .ex (.var 24), .bx (.lit false)]))) .ok)) .ok)
 (.br (.cmp .eql (.var 12) (.lit 3))
 (.and (.call 5 [.ex (.var 14), .ex (.var 13)] (.and (.call 2 [.var 1, .ex (.var 2), .ex (.var 3), .ex (.var 4), .ex (.var 5), .ex (.var 6), .bx (.var 7), .ex (.var 8), .ex (.var 9), .ex (.var 13), .ex (.var 16)] (.br (.var 25)
 (.ext (.mk 18 [.ex (.var 9), .ex (.var 10), .ex (.var 11), .ex (.lit 9), .ex (.var 13), .ex (.var 14), .ex (.var 15)]) (.ret [.var 26, .var 17, .ex (.var 18), .ex (.var 19), .ex (.var 20), .ex (.var 21), .ex (.var 22), .bx (.var 23), .ex (.var 24), .bx (.lit true)]))
 (.ext (.mk 18 [.ex (.var 9), .ex (.var 10), .ex (.var 11), .ex (.lit 1), .ex (.var 13), .ex (.var 14), .ex (.var 15)]) (.ret [.var 26, .var 17, .ex (.var 18), .ex (.var 19), .ex (.var 20), .ex (.var 21), .ex (.var 22), .bx (.var 23), .ex (.var 24), .bx (.lit false)])))) .ok)) .ok)
 (.ext (.mk 18 [.ex (.var 9), .ex (.var 10), .ex (.var 11), .ex (.var 12), .ex (.var 13), .ex (.var 14), .ex (.var 15)]) (.ret [.var 16, .var 1, .ex (.var 2), .ex (.var 3), .ex (.var 4), .ex (.var 5), .ex (.var 6), .bx (.var 7), .ex (.var 8), .bx (.cmp .eql (.var 12) (.lit 9))]))))))
 (.nomore 0 [18]))
theorem rRPuStep : runCtr { (cx Try.prog ctsKR2) with hints := hsRPuStep } 20 cRPuStep [(0,[18])] [(0,[18])] = tRPuStep := by kernel_rfl

def hsRAlStep : List (Nat × Nat × List Nat) := [(94, 4, [0]), (94, 10, [1, 2])]
def tRAlStep : Tree := (.and (.opn 0 25 (.br (.cmp .eql (.var 12) (.lit 1))
 (.call 0 [.var 1, .ex (.var 2), .ex (.var 3), .ex (.var 4), .ex (.var 5), .ex (.var 6), .bx (.var 7), .ex (.var 8), .ex (.var 9)] (.and (.and (.and (.call 4 [.ex (.var 9), .ex (.var 10), .ex (.var 11), .ex (.var 23)] (.and (.br (.cmp .lss (.var 24) (.lit 0))
 (.ext (.mk 25 [.ex (.var 9), .ex (.var 10), .ex (.var 11), .ex (.lit 9), .ex (.var 23), .ex (.var 24)]) (.ret [.var 25, .var 15, .ex (.var 16), .ex (.var 17), .ex (.var 18), .ex (.var 19), .ex (.var 20), .bx (.var 21), .ex (.var 22), .bx (.lit true)]))
 (.ext (.mk 25 [.ex (.var 9), .ex (.var 10), .ex (.var 11), .ex (.lit 2), .ex (.var 23), .ex (.var 24)]) (.ret [.var 25, .var 15, .ex (.var 16), .ex (.var 17), .ex (.var 18), .ex (.var 19), .ex (.var 20), .bx (.var 21), .ex (.var 22), .bx (.lit false)]))) .ok)) .ok) .ok)
 (.and (.and (.and (.call 4 [.ex (.var 9), .ex (.var 10), .ex (.var 11), .ex (.var 23)] (.and (.br (.cmp .lss (.var 24) (.lit 0))
 (.ext (.mk 25 [.ex (.var 9), .ex (.var 10), .ex (.var 11), .ex (.lit 9), .ex (.var 23), .ex (.var 24)]) (.ret [.var 25, .var 15, .ex (.var 16), .ex (.var 17), .ex (.var 18), .ex (.var 19), .ex (.var 20), .bx (.var 21), .ex (.var 22), .bx (.lit true)]))
 (.ext (.mk 25 [.ex (.var 9), .ex (.var 10), .ex (.var 11), .ex (.lit 2), .ex (.var 23), .ex (.var 24)]) (.ret [.var 25, .var 15, .ex (.var 16), .ex (.var 17), .ex (.var 18), .ex (.var 19), .ex (.var 20), .bx (.var 21), .ex (.var 22), .bx (.lit false)]))) .ok)) .ok) .ok) .ok)))
 (.br (.cmp .eql (.var 12) (.lit 2))
 (.and (.call 5 [.ex (.lit (-1)), .ex (.var 13)] (.and (.call 2 [.var 1, .ex (.var 2), .ex (.var 3), .ex (.var 4), .ex (.var 5), .ex (.var 6), .bx (.var 7), .ex (.var 8), .ex (.var 9), .ex (.var 13), .ex (.var 15)] (.br (.var 24)
 (.ext (.mk 25 [.ex (.var 9), .ex (.var 10), .ex (.var 11), .ex (.lit 9), .ex (.var 13), .ex (.var 14)]) (.ret [.var 25, .var 16, .ex (.var 17), .ex (.var 18), .ex (.var 19), .ex (.var 20), .ex (.var 21), .bx (.var 22), .ex (.var 23), .bx (.lit true)]))
 (.ext (.mk 25 [.ex (.var 9), .ex (.var 10), .ex (.var 11), .ex (.lit 1), .ex (.var 13), .ex (.var 14)]) (.ret [.var 25, .var 16, .ex (.var 17), .ex (.var 18), .ex (.var 19), .ex (.var 20), .ex (.var 21), .bx (.var 22), .ex (.var 23), .bx (.lit false)])))) .ok)) .ok)
 (.ext (.mk 25 [.ex (.var 9), .ex (.var 10), .ex (.var 11), .ex (.var 12), .ex (.var 13), .ex (.var 14)]) (.ret [.var 15, .var 1, .ex (.var 2), .ex (.var 3), .ex (.var 4), .ex (.var 5), .ex (.var 6), .bx (.var 7), .ex (.var 8), .bx (.cmp .eql (.var 12) (.lit 9))])))))
 (.nomore 0 [25]))
theorem rRAlStep : runCtr { (cx Try.prog ctsKR2) with hints := hsRAlStep } 20 cRAlStep [(0,[25])] [(0,[25])] = tRAlStep := by kernel_rfl

end Go.Proofs.Ytdabdbbgaekmdaa
