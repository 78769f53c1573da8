/- The ways of the runs, as a program of ours printed them. -/
import Derived.Test.YtdabdbbgaekmdaaKq
import Derived.KernelRfl
namespace Go.Proofs.Ytdabdbbgaekmdaa
set_option linter.unusedVariables false
set_option linter.unusedSimpArgs false
set_option linter.unusedSectionVars false
open Go
set_option maxRecDepth 100000

def hsQSFits : List (Nat × Nat × List Nat) := []
def tQSFits : Tree := (.br (.cmp .lss (.var 3) (.lit 1))
 (.ret [.ex (.lit 3)])
 (.br (.cmp .gtr (.var 3) (.lit 4096))
 (.ret [.ex (.lit 3)])
 (.br (.cmp .lss (.var 2) (.lit 1))
 (.ret [.ex (.lit 2)])
 (.br (.cmp .gtr (.var 2) (.lit 4096))
 (.ret [.ex (.lit 2)])
 (.br (.cmp .lss (.var 0) (.lit 0))
 (.ret [.ex (.lit 2)])
 (.br (.cmp .geq (.var 0) (.var 3))
 (.ret [.ex (.lit 2)])
 (.br (.cmp .lss (.var 1) (.lit 0))
 (.ret [.ex (.lit 2)])
 (.br (.cmp .gtr (.var 1) (.bin .sub .i64 (.var 3) (.var 2)))
 (.ret [.ex (.lit 2)])
 (.br (.cmp .geq (.var 0) (.var 1))
 (.br (.cmp .lss (.var 0) (.bin .add .i64 (.var 1) (.var 2)))
 (.ret [.ex (.lit 2)])
 (.ret [.ex (.lit 0)]))
 (.ret [.ex (.lit 0)]))))))))))
theorem rQSFits : runCtr { (cx Try.prog []) with hints := hsQSFits } 20 cQSFits [] [] = tQSFits := by kernel_rfl

def hsQIdx : List (Nat × Nat × List Nat) := []
def tQIdx : Tree := (.br (.cmp .geq (.bin .sub .i64 (.conv .i64 (.bin .rem .u64 (.var 3) (.lit 65536))) (.lit 1)) (.var 2))
 (.ret [.ex (.lit (-1))])
 (.ret [.ex (.bin .sub .i64 (.conv .i64 (.bin .rem .u64 (.var 3) (.lit 65536))) (.lit 1))]))
theorem rQIdx : runCtr { (cx Try.prog []) with hints := hsQIdx } 20 cQIdx [] [] = tQIdx := by kernel_rfl

def hsQTop : List (Nat × Nat × List Nat) := []
def tQTop : Tree := (.ret [.ex (.bin .or .u64 (.conv .u64 (.bin .add .i64 (.var 0) (.lit 1))) (.bin .shl .u64 (.bin .add .u64 (.bin .shr .u64 (.var 1) (.lit 16)) (.lit 1)) (.lit 16)))])
theorem rQTop : runCtr { (cx Try.prog []) with hints := hsQTop } 20 cQTop [] [] = tQTop := by kernel_rfl

def hsQSFill : List (Nat × Nat × List Nat) := []
def tQSFillL0 : Tree := (.br (.cmp .lss (.var 6) (.bin .sub .i64 (.var 3) (.lit 1)))
 (.call 1 [.var 5, .ex (.bin .add .i64 (.var 2) (.var 6)), .ex (.conv .u64 (.bin .add .i64 (.var 6) (.lit 2)))] (.back 0 5 [.var 7, .ex (.bin .add .i64 (.var 6) (.lit 1))]))
 (.call 1 [.var 5, .ex (.bin .sub .i64 (.bin .add .i64 (.var 2) (.var 3)) (.lit 1)), .ex (.lit 0)] (.ret [.var 7])))
def tQSFill : Tree := (.br (.cmp .lss (.var 3) (.lit 1))
 (.ret [.var 0])
 (.br (.cmp .gtr (.var 3) (.lit 4096))
 (.ret [.var 0])
 (.call 1 [.var 0, .ex (.var 1), .ex (.lit 1)] (.loop 0 5 [.var 4, .ex (.lit 0)] tQSFillL0))))
theorem rQSFill : runCtr { (cxKQ Try.prog lQSFill) with hints := hsQSFill } 20 cQSFill [] [] = tQSFill := by kernel_rfl

def hsQChain : List (Nat × Nat × List Nat) := []
def tQChainL0 : Tree := (.br (.cmp .geq (.var 8) (.lit 0))
 (.need (.cmp .leq (.lit 0) (.var 9)) (.br (.cmp .lss (.var 9) (.var 3))
 (.need (.cmp .leq (.lit 0) (.var 9)) (.need (.cmp .leq (.var 9) (.var 11)) (.need (.cmp .leq (.var 11) (.len 10)) (.need (.cmp .leq (.len 10) (.var 11)) (.need (.cmp .leq (.var 9) (.lit 1000000)) (.app (some 10) (.var 9) (.var 8) (.and (.call 3 [.var 7, .ex (.bin .add .i64 (.var 2) (.var 8))] (.and (.call 4 [.ex (.var 1), .ex (.var 2), .ex (.var 3), .ex (.var 15)] (.back 0 7 [.var 14, .ex (.var 16), .ex (.bin .add .i64 (.var 9) (.lit 1)), .var 12, .ex (.var 13)])) .ok)) .ok)))))))
 (.ret [.var 7, .var 10, .ex (.var 9), .ex (.var 11)])))
 (.ret [.var 7, .var 10, .ex (.var 9), .ex (.var 11)]))
def tQChain : Tree := (.and (.call 3 [.var 0, .ex (.var 1)] (.and (.call 4 [.ex (.var 1), .ex (.var 2), .ex (.var 3), .ex (.var 5)] (.ext (.lst []) (.loop 0 7 [.var 4, .ex (.var 6), .ex (.lit 0), .var 7, .ex (.lit 0)] tQChainL0))) .ok)) .ok)
theorem rQChain : runCtr { (cxKQ Try.prog lQChain) with hints := hsQChain } 20 cQChain [] [] = tQChain := by kernel_rfl

def hsQNewPo : List (Nat × Nat × List Nat) := []
def tQNewPo : Tree := (.ext (.mk 11 [.ex (.var 0), .ex (.var 1), .ex (.var 2), .ex (.lit 1), .ex (.lit 0), .ex (.lit 0), .ex (.lit 0)]) (.ret [.var 3]))
theorem rQNewPo : runCtr { (cx Try.prog []) with hints := hsQNewPo } 20 cQNewPo [] [(0,[11])] = tQNewPo := by kernel_rfl

def hsQPoStep : List (Nat × Nat × List Nat) := [(90, 4, [0]), (90, 9, [0])]
def tQPoStep : Tree := (.and (.opn 0 11 (.br (.cmp .eql (.var 5) (.lit 1))
 (.call 0 [.var 1, .ex (.var 2)] (.and (.and (.and (.call 4 [.ex (.var 2), .ex (.var 3), .ex (.var 4), .ex (.var 10)] (.and (.br (.cmp .lss (.var 11) (.lit 0))
 (.ext (.mk 11 [.ex (.var 2), .ex (.var 3), .ex (.var 4), .ex (.lit 9), .ex (.var 10), .ex (.var 11), .ex (.var 8)]) (.ret [.var 12, .var 9, .bx (.lit true)]))
 (.ext (.mk 11 [.ex (.var 2), .ex (.var 3), .ex (.var 4), .ex (.lit 2), .ex (.var 10), .ex (.var 11), .ex (.var 8)]) (.ret [.var 12, .var 9, .bx (.lit false)]))) .ok)) .ok) .ok)
 (.and (.and (.and (.call 4 [.ex (.var 2), .ex (.var 3), .ex (.var 4), .ex (.var 10)] (.and (.br (.cmp .lss (.var 11) (.lit 0))
 (.ext (.mk 11 [.ex (.var 2), .ex (.var 3), .ex (.var 4), .ex (.lit 9), .ex (.var 10), .ex (.var 11), .ex (.var 8)]) (.ret [.var 12, .var 9, .bx (.lit true)]))
 (.ext (.mk 11 [.ex (.var 2), .ex (.var 3), .ex (.var 4), .ex (.lit 2), .ex (.var 10), .ex (.var 11), .ex (.var 8)]) (.ret [.var 12, .var 9, .bx (.lit false)]))) .ok)) .ok) .ok) .ok)))
 (.br (.cmp .eql (.var 5) (.lit 2))
 (.and (.and (.and (.and (.call 0 [.var 1, .ex (.bin .add .i64 (.var 3) (.var 7))] (.and (.call 4 [.ex (.var 2), .ex (.var 3), .ex (.var 4), .ex (.var 10)] (.and (.ext (.mk 11 [.ex (.var 2), .ex (.var 3), .ex (.var 4), .ex (.lit 3), .ex (.var 6), .ex (.var 7), .ex (.var 11)]) (.ret [.var 12, .var 9, .bx (.lit false)])) .ok)) .ok)) .ok) .ok)
 (.and (.and (.and (.call 0 [.var 1, .ex (.bin .add .i64 (.var 3) (.var 7))] (.and (.call 4 [.ex (.var 2), .ex (.var 3), .ex (.var 4), .ex (.var 10)] (.and (.ext (.mk 11 [.ex (.var 2), .ex (.var 3), .ex (.var 4), .ex (.lit 3), .ex (.var 6), .ex (.var 7), .ex (.var 11)]) (.ret [.var 12, .var 9, .bx (.lit false)])) .ok)) .ok)) .ok) .ok) .ok))
 (.and (.and (.and (.and (.call 0 [.var 1, .ex (.bin .add .i64 (.var 3) (.var 7))] (.and (.call 4 [.ex (.var 2), .ex (.var 3), .ex (.var 4), .ex (.var 10)] (.and (.ext (.mk 11 [.ex (.var 2), .ex (.var 3), .ex (.var 4), .ex (.lit 3), .ex (.var 6), .ex (.var 7), .ex (.var 11)]) (.ret [.var 12, .var 9, .bx (.lit false)])) .ok)) .ok)) .ok) .ok)
 (.and (.and (.and (.call 0 [.var 1, .ex (.bin .add .i64 (.var 3) (.var 7))] (.and (.call 4 [.ex (.var 2), .ex (.var 3), .ex (.var 4), .ex (.var 10)] (.and (.ext (.mk 11 [.ex (.var 2), .ex (.var 3), .ex (.var 4), .ex (.lit 3), .ex (.var 6), .ex (.var 7), .ex (.var 11)]) (.ret [.var 12, .var 9, .bx (.lit false)])) .ok)) .ok)) .ok)
 (.and (.call 0 [.var 1, .ex (.bin .add .i64 (.var 3) (.var 7))] (.and (.and (.call 4 [.ex (.var 2), .ex (.var 3), .ex (.var 4), .ex (.var 10)] (.and (.ext (.mk 11 [.ex (.var 2), .ex (.var 3), .ex (.var 4), .ex (.lit 3), .ex (.var 6), .ex (.var 7), .ex (.var 11)]) (.ret [.var 12, .var 9, .bx (.lit false)])) .ok)) .ok) .ok)) .ok)) .ok))
 (.and (.and (.and (.and (.call 0 [.var 1, .ex (.bin .add .i64 (.var 3) (.var 7))] (.and (.call 4 [.ex (.var 2), .ex (.var 3), .ex (.var 4), .ex (.var 10)] (.and (.ext (.mk 11 [.ex (.var 2), .ex (.var 3), .ex (.var 4), .ex (.lit 3), .ex (.var 6), .ex (.var 7), .ex (.var 11)]) (.ret [.var 12, .var 9, .bx (.lit false)])) .ok)) .ok)) .ok) .ok)
 (.and (.and (.and (.call 0 [.var 1, .ex (.bin .add .i64 (.var 3) (.var 7))] (.and (.call 4 [.ex (.var 2), .ex (.var 3), .ex (.var 4), .ex (.var 10)] (.and (.ext (.mk 11 [.ex (.var 2), .ex (.var 3), .ex (.var 4), .ex (.lit 3), .ex (.var 6), .ex (.var 7), .ex (.var 11)]) (.ret [.var 12, .var 9, .bx (.lit false)])) .ok)) .ok)) .ok)
 (.and (.call 0 [.var 1, .ex (.bin .add .i64 (.var 3) (.var 7))] (.and (.and (.call 4 [.ex (.var 2), .ex (.var 3), .ex (.var 4), .ex (.var 10)] (.and (.ext (.mk 11 [.ex (.var 2), .ex (.var 3), .ex (.var 4), .ex (.lit 3), .ex (.var 6), .ex (.var 7), .ex (.var 11)]) (.ret [.var 12, .var 9, .bx (.lit false)])) .ok)) .ok) .ok)) .ok)) .ok)) .ok)))
 (.br (.cmp .eql (.var 5) (.lit 3))
 (.and (.call 5 [.ex (.var 8), .ex (.var 6)] (.and (.call 2 [.var 1, .ex (.var 2), .ex (.var 6), .ex (.var 9)] (.br (.var 11)
 (.ext (.mk 11 [.ex (.var 2), .ex (.var 3), .ex (.var 4), .ex (.lit 9), .ex (.var 6), .ex (.var 7), .ex (.var 8)]) (.ret [.var 12, .var 10, .bx (.lit true)]))
 (.ext (.mk 11 [.ex (.var 2), .ex (.var 3), .ex (.var 4), .ex (.lit 1), .ex (.var 6), .ex (.var 7), .ex (.var 8)]) (.ret [.var 12, .var 10, .bx (.lit false)])))) .ok)) .ok)
 (.ext (.mk 11 [.ex (.var 2), .ex (.var 3), .ex (.var 4), .ex (.var 5), .ex (.var 6), .ex (.var 7), .ex (.var 8)]) (.ret [.var 9, .var 1, .bx (.cmp .eql (.var 5) (.lit 9))]))))))
 (.nomore 0 [11]))
theorem rQPoStep : runCtr { (cx Try.prog ctsKQ) with hints := hsQPoStep } 20 cQPoStep [(0,[11])] [(0,[11])] = tQPoStep := by kernel_rfl

def hsQPoIndex : List (Nat × Nat × List Nat) := []
def tQPoIndex : Tree := (.and (.opn 0 11 (.and (.br (.cmp .eql (.var 4) (.lit 9))
 (.br (.cmp .lss (.var 6) (.lit 0))
 (.ext (.mk 11 [.ex (.var 1), .ex (.var 2), .ex (.var 3), .ex (.var 4), .ex (.var 5), .ex (.var 6), .ex (.var 7)]) (.ret [.var 8, .ex (.lit 0), .ex (.lit 15)]))
 (.ext (.mk 11 [.ex (.var 1), .ex (.var 2), .ex (.var 3), .ex (.var 4), .ex (.var 5), .ex (.var 6), .ex (.var 7)]) (.ret [.var 8, .ex (.var 6), .ex (.lit 0)])))
 (.ext (.mk 11 [.ex (.var 1), .ex (.var 2), .ex (.var 3), .ex (.var 4), .ex (.var 5), .ex (.var 6), .ex (.var 7)]) (.ret [.var 8, .ex (.lit 0), .ex (.lit 14)]))) .ok))
 (.nomore 0 [11]))
theorem rQPoIndex : runCtr { (cx Try.prog []) with hints := hsQPoIndex } 20 cQPoIndex [(0,[11])] [(0,[11])] = tQPoIndex := by kernel_rfl

def hsQNewPu : List (Nat × Nat × List Nat) := []
def tQNewPu : Tree := (.br (.cmp .lss (.var 3) (.lit 0))
 (.ext (.mk 18 [.ex (.var 0), .ex (.var 1), .ex (.var 2), .ex (.lit 9), .ex (.lit 0), .ex (.lit 0), .ex (.lit 3)]) (.ret [.var 4]))
 (.br (.cmp .geq (.var 3) (.var 2))
 (.ext (.mk 18 [.ex (.var 0), .ex (.var 1), .ex (.var 2), .ex (.lit 9), .ex (.lit 0), .ex (.lit 0), .ex (.lit 3)]) (.ret [.var 4]))
 (.ext (.mk 18 [.ex (.var 0), .ex (.var 1), .ex (.var 2), .ex (.lit 1), .ex (.lit 0), .ex (.var 3), .ex (.lit 0)]) (.ret [.var 4]))))
theorem rQNewPu : runCtr { (cx Try.prog []) with hints := hsQNewPu } 20 cQNewPu [] [(0,[18])] = tQNewPu := by kernel_rfl

def hsQPuStep : List (Nat × Nat × List Nat) := []
def tQPuStep : Tree := (.and (.opn 0 18 (.br (.cmp .eql (.var 5) (.lit 1))
 (.call 0 [.var 1, .ex (.var 2)] (.ext (.mk 18 [.ex (.var 2), .ex (.var 3), .ex (.var 4), .ex (.lit 2), .ex (.var 10), .ex (.var 7), .ex (.var 8)]) (.ret [.var 11, .var 9, .bx (.lit false)])))
 (.br (.cmp .eql (.var 5) (.lit 2))
 (.and (.call 4 [.ex (.var 2), .ex (.var 3), .ex (.var 4), .ex (.var 6)] (.and (.call 1 [.var 1, .ex (.bin .add .i64 (.var 3) (.var 7)), .ex (.conv .u64 (.bin .add .i64 (.var 9) (.lit 1)))] (.ext (.mk 18 [.ex (.var 2), .ex (.var 3), .ex (.var 4), .ex (.lit 3), .ex (.var 6), .ex (.var 7), .ex (.var 8)]) (.ret [.var 11, .var 10, .bx (.lit false)]))) .ok)) .ok)
 (.br (.cmp .eql (.var 5) (.lit 3))
 (.and (.call 5 [.ex (.var 7), .ex (.var 6)] (.and (.call 2 [.var 1, .ex (.var 2), .ex (.var 6), .ex (.var 9)] (.br (.var 11)
 (.ext (.mk 18 [.ex (.var 2), .ex (.var 3), .ex (.var 4), .ex (.lit 9), .ex (.var 6), .ex (.var 7), .ex (.var 8)]) (.ret [.var 12, .var 10, .bx (.lit true)]))
 (.ext (.mk 18 [.ex (.var 2), .ex (.var 3), .ex (.var 4), .ex (.lit 1), .ex (.var 6), .ex (.var 7), .ex (.var 8)]) (.ret [.var 12, .var 10, .bx (.lit false)])))) .ok)) .ok)
 (.ext (.mk 18 [.ex (.var 2), .ex (.var 3), .ex (.var 4), .ex (.var 5), .ex (.var 6), .ex (.var 7), .ex (.var 8)]) (.ret [.var 9, .var 1, .bx (.cmp .eql (.var 5) (.lit 9))]))))))
 (.nomore 0 [18]))
theorem rQPuStep : runCtr { (cx Try.prog ctsKQ) with hints := hsQPuStep } 20 cQPuStep [(0,[18])] [(0,[18])] = tQPuStep := by kernel_rfl

def hsQPuErr : List (Nat × Nat × List Nat) := []
def tQPuErr : Tree := (.and (.opn 0 18 (.br (.cmp .eql (.var 4) (.lit 9))
 (.ext (.mk 18 [.ex (.var 1), .ex (.var 2), .ex (.var 3), .ex (.var 4), .ex (.var 5), .ex (.var 6), .ex (.var 7)]) (.ret [.var 8, .ex (.var 7)]))
 (.ext (.mk 18 [.ex (.var 1), .ex (.var 2), .ex (.var 3), .ex (.var 4), .ex (.var 5), .ex (.var 6), .ex (.var 7)]) (.ret [.var 8, .ex (.lit 14)]))))
 (.nomore 0 [18]))
theorem rQPuErr : runCtr { (cx Try.prog []) with hints := hsQPuErr } 20 cQPuErr [(0,[18])] [(0,[18])] = tQPuErr := by kernel_rfl

def hsQNewAl : List (Nat × Nat × List Nat) := []
def tQNewAl : Tree := (.ext (.mk 25 [.ex (.var 0), .ex (.var 1), .ex (.var 2), .ex (.lit 1), .ex (.lit 0), .ex (.lit 0)]) (.ret [.var 3]))
theorem rQNewAl : runCtr { (cx Try.prog []) with hints := hsQNewAl } 20 cQNewAl [] [(0,[25])] = tQNewAl := by kernel_rfl

def hsQAlStep : List (Nat × Nat × List Nat) := [(94, 4, [0])]
def tQAlStep : Tree := (.and (.opn 0 25 (.br (.cmp .eql (.var 5) (.lit 1))
 (.call 0 [.var 1, .ex (.var 2)] (.and (.and (.and (.call 4 [.ex (.var 2), .ex (.var 3), .ex (.var 4), .ex (.var 9)] (.and (.br (.cmp .lss (.var 10) (.lit 0))
 (.ext (.mk 25 [.ex (.var 2), .ex (.var 3), .ex (.var 4), .ex (.lit 9), .ex (.var 9), .ex (.var 10)]) (.ret [.var 11, .var 8, .bx (.lit true)]))
 (.ext (.mk 25 [.ex (.var 2), .ex (.var 3), .ex (.var 4), .ex (.lit 2), .ex (.var 9), .ex (.var 10)]) (.ret [.var 11, .var 8, .bx (.lit false)]))) .ok)) .ok) .ok)
 (.and (.and (.and (.call 4 [.ex (.var 2), .ex (.var 3), .ex (.var 4), .ex (.var 9)] (.and (.br (.cmp .lss (.var 10) (.lit 0))
 (.ext (.mk 25 [.ex (.var 2), .ex (.var 3), .ex (.var 4), .ex (.lit 9), .ex (.var 9), .ex (.var 10)]) (.ret [.var 11, .var 8, .bx (.lit true)]))
 (.ext (.mk 25 [.ex (.var 2), .ex (.var 3), .ex (.var 4), .ex (.lit 2), .ex (.var 9), .ex (.var 10)]) (.ret [.var 11, .var 8, .bx (.lit false)]))) .ok)) .ok) .ok) .ok)))
 (.br (.cmp .eql (.var 5) (.lit 2))
 (.and (.call 5 [.ex (.lit (-1)), .ex (.var 6)] (.and (.call 2 [.var 1, .ex (.var 2), .ex (.var 6), .ex (.var 8)] (.br (.var 10)
 (.ext (.mk 25 [.ex (.var 2), .ex (.var 3), .ex (.var 4), .ex (.lit 9), .ex (.var 6), .ex (.var 7)]) (.ret [.var 11, .var 9, .bx (.lit true)]))
 (.ext (.mk 25 [.ex (.var 2), .ex (.var 3), .ex (.var 4), .ex (.lit 1), .ex (.var 6), .ex (.var 7)]) (.ret [.var 11, .var 9, .bx (.lit false)])))) .ok)) .ok)
 (.ext (.mk 25 [.ex (.var 2), .ex (.var 3), .ex (.var 4), .ex (.var 5), .ex (.var 6), .ex (.var 7)]) (.ret [.var 8, .var 1, .bx (.cmp .eql (.var 5) (.lit 9))])))))
 (.nomore 0 [25]))
theorem rQAlStep : runCtr { (cx Try.prog ctsKQ) with hints := hsQAlStep } 20 cQAlStep [(0,[25])] [(0,[25])] = tQAlStep := by kernel_rfl

def hsQAlIndex : List (Nat × Nat × List Nat) := []
def tQAlIndex : Tree := (.and (.opn 0 25 (.and (.br (.cmp .eql (.var 4) (.lit 9))
 (.br (.cmp .lss (.var 6) (.lit 0))
 (.ext (.mk 25 [.ex (.var 1), .ex (.var 2), .ex (.var 3), .ex (.var 4), .ex (.var 5), .ex (.var 6)]) (.ret [.var 7, .ex (.lit 0), .ex (.lit 15)]))
 (.ext (.mk 25 [.ex (.var 1), .ex (.var 2), .ex (.var 3), .ex (.var 4), .ex (.var 5), .ex (.var 6)]) (.ret [.var 7, .ex (.var 6), .ex (.lit 0)])))
 (.ext (.mk 25 [.ex (.var 1), .ex (.var 2), .ex (.var 3), .ex (.var 4), .ex (.var 5), .ex (.var 6)]) (.ret [.var 7, .ex (.lit 0), .ex (.lit 14)]))) .ok))
 (.nomore 0 [25]))
theorem rQAlIndex : runCtr { (cx Try.prog []) with hints := hsQAlIndex } 20 cQAlIndex [(0,[25])] [(0,[25])] = tQAlIndex := by kernel_rfl

end Go.Proofs.Ytdabdbbgaekmdaa
