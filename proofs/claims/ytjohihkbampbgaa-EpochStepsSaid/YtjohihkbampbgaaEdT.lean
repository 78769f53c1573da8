/- The ways of the runs, as a program of ours printed them. -/
import Derived.Test.YtjohihkbampbgaaEd
import Derived.KernelRfl
namespace Go.Proofs.Ytjohihkbampbgaa
set_option linter.unusedVariables false
set_option linter.unusedSimpArgs false
set_option linter.unusedSectionVars false
open Go
set_option maxRecDepth 100000

def hsQEFits : List (Nat × Nat × List Nat) := []
def tQEFits : Tree := (.br (.cmp .lss (.var 3) (.lit 1))
 (.ret [.ex (.lit 3)])
 (.br (.cmp .gtr (.var 3) (.lit 4096))
 (.ret [.ex (.lit 3)])
 (.br (.cmp .geq (.var 2) (.lit 1))
 (.br (.cmp .leq (.var 2) (.lit 64))
 (.br (.cmp .lss (.var 0) (.lit 0))
 (.ret [.ex (.lit 2)])
 (.br (.cmp .geq (.var 0) (.var 3))
 (.ret [.ex (.lit 2)])
 (.br (.cmp .lss (.var 1) (.lit 0))
 (.ret [.ex (.lit 2)])
 (.br (.cmp .gtr (.var 1) (.bin .sub .i64 (.var 3) (.var 2)))
 (.ret [.ex (.lit 2)])
 (.br (.cmp .geq (.var 0) (.var 1))
 (.br (.cmp .lss (.var 0) (.bin .add .i64 (.var 1) (.var 2)))
 (.ret [.ex (.lit 2)])
 (.ret [.ex (.lit 0)]))
 (.ret [.ex (.lit 0)]))))))
 (.ret [.ex (.lit 2)]))
 (.ret [.ex (.lit 2)]))))
theorem rQEFits : runCtr { (cx Try.prog []) with hints := hsQEFits } 20 cQEFits [] [] = tQEFits := by kernel_rfl

def hsQEFill : List (Nat × Nat × List Nat) := []
def tQEFillL0 : Tree := (.br (.cmp .lss (.var 6) (.var 3))
 (.call 1 [.var 5, .ex (.bin .add .i64 (.var 2) (.var 6)), .ex (.lit 0)] (.back 0 5 [.var 7, .ex (.bin .add .i64 (.var 6) (.lit 1))]))
 (.ret [.var 5]))
def tQEFill : Tree := (.br (.cmp .geq (.var 3) (.lit 1))
 (.br (.cmp .leq (.var 3) (.lit 64))
 (.call 1 [.var 0, .ex (.var 1), .ex (.lit 0)] (.loop 0 5 [.var 4, .ex (.lit 0)] tQEFillL0))
 (.ret [.var 0]))
 (.ret [.var 0]))
theorem rQEFill : runCtr { (cxQE Try.prog lQEFill) with hints := hsQEFill } 20 cQEFill [] [] = tQEFill := by kernel_rfl

def hsQENow : List (Nat × Nat × List Nat) := []
def tQENow : Tree := (.call 3 [.var 0, .ex (.var 1)] (.ret [.var 4, .ex (.conv .i64 (.bin .rem .u64 (.var 5) (.lit 4294967296)))]))
theorem rQENow : runCtr { (cx Try.prog ctsQE) with hints := hsQENow } 20 cQENow [] [] = tQENow := by kernel_rfl

def hsQEPinned : List (Nat × Nat × List Nat) := []
def tQEPinnedL0 : Tree := (.br (.cmp .geq (.var 3) (.lit 1))
 (.br (.cmp .leq (.var 3) (.lit 64))
 (.br (.cmp .lss (.var 5) (.var 3))
 (.call 3 [.var 4, .ex (.bin .add .i64 (.var 2) (.var 5))] (.br (.cmp .eql (.var 9) (.lit 0))
 (.need (.cmp .leq (.lit 0) (.var 5)) (.need (.cmp .leq (.var 5) (.var 7)) (.need (.cmp .leq (.var 7) (.len 6)) (.need (.cmp .leq (.len 6) (.var 7)) (.need (.cmp .leq (.var 5) (.lit 1000000)) (.app (some 6) (.var 5) (.lit (-1)) (.back 0 4 [.var 8, .ex (.bin .add .i64 (.var 5) (.lit 1)), .var 10, .ex (.var 11)])))))))
 (.need (.cmp .leq (.lit 0) (.var 5)) (.need (.cmp .leq (.var 5) (.var 7)) (.need (.cmp .leq (.var 7) (.len 6)) (.need (.cmp .leq (.len 6) (.var 7)) (.need (.cmp .leq (.var 5) (.lit 1000000)) (.app (some 6) (.var 5) (.conv .i64 (.bin .rem .u64 (.bin .sub .u64 (.var 9) (.lit 1)) (.lit 4294967296))) (.back 0 4 [.var 8, .ex (.bin .add .i64 (.var 5) (.lit 1)), .var 10, .ex (.var 11)])))))))))
 (.ret [.var 4, .var 6, .ex (.var 5), .ex (.var 7)]))
 (.ret [.var 4, .var 6, .ex (.var 5), .ex (.var 7)]))
 (.ret [.var 4, .var 6, .ex (.var 5), .ex (.var 7)]))
def tQEPinned : Tree := (.ext (.lst []) (.loop 0 4 [.var 0, .ex (.lit 0), .var 4, .ex (.lit 0)] tQEPinnedL0))
theorem rQEPinned : runCtr { (cxQE Try.prog lQEPinned) with hints := hsQEPinned } 20 cQEPinned [] [] = tQEPinned := by kernel_rfl

def hsQNewPin : List (Nat × Nat × List Nat) := []
def tQNewPin : Tree := (.br (.cmp .lss (.var 3) (.lit 0))
 (.ext (.mk 14 [.ex (.lit 0), .ex (.lit 0), .ex (.lit 0), .ex (.lit 0), .ex (.lit 9), .ex (.lit 0), .ex (.lit 3)]) (.ret [.var 4]))
 (.br (.cmp .geq (.var 3) (.var 2))
 (.ext (.mk 14 [.ex (.lit 0), .ex (.lit 0), .ex (.lit 0), .ex (.lit 0), .ex (.lit 9), .ex (.lit 0), .ex (.lit 3)]) (.ret [.var 4]))
 (.ext (.mk 14 [.ex (.var 0), .ex (.var 1), .ex (.var 2), .ex (.var 3), .ex (.lit 1), .ex (.lit 0), .ex (.lit 0)]) (.ret [.var 4]))))
theorem rQNewPin : runCtr { (cx Try.prog []) with hints := hsQNewPin } 20 cQNewPin [] [(0,[14])] = tQNewPin := by kernel_rfl

def hsQPinStep : List (Nat × Nat × List Nat) := []
def tQPinStep : Tree := (.and (.opn 0 14 (.br (.cmp .eql (.var 6) (.lit 1))
 (.call 0 [.var 1, .ex (.var 2)] (.ext (.mk 14 [.ex (.var 2), .ex (.var 3), .ex (.var 4), .ex (.var 5), .ex (.lit 2), .ex (.conv .i64 (.bin .rem .u64 (.var 10) (.lit 4294967296))), .ex (.var 8)]) (.ret [.var 11, .var 9, .bx (.lit false)])))
 (.br (.cmp .eql (.var 6) (.lit 2))
 (.and (.call 1 [.var 1, .ex (.bin .add .i64 (.var 3) (.var 5)), .ex (.bin .add .u64 (.conv .u64 (.var 7)) (.lit 1))] (.ext (.mk 14 [.ex (.var 2), .ex (.var 3), .ex (.var 4), .ex (.var 5), .ex (.lit 3), .ex (.var 7), .ex (.var 8)]) (.ret [.var 10, .var 9, .bx (.lit false)]))) .ok)
 (.br (.cmp .eql (.var 6) (.lit 3))
 (.call 0 [.var 1, .ex (.var 2)] (.br (.cmp .eql (.conv .i64 (.bin .rem .u64 (.var 10) (.lit 4294967296))) (.var 7))
 (.ext (.mk 14 [.ex (.var 2), .ex (.var 3), .ex (.var 4), .ex (.var 5), .ex (.lit 9), .ex (.var 7), .ex (.var 8)]) (.ret [.var 11, .var 9, .bx (.lit true)]))
 (.ext (.mk 14 [.ex (.var 2), .ex (.var 3), .ex (.var 4), .ex (.var 5), .ex (.lit 2), .ex (.conv .i64 (.bin .rem .u64 (.var 10) (.lit 4294967296))), .ex (.var 8)]) (.ret [.var 11, .var 9, .bx (.lit false)]))))
 (.ext (.mk 14 [.ex (.var 2), .ex (.var 3), .ex (.var 4), .ex (.var 5), .ex (.var 6), .ex (.var 7), .ex (.var 8)]) (.ret [.var 9, .var 1, .bx (.cmp .eql (.var 6) (.lit 9))]))))))
 (.nomore 0 [14]))
theorem rQPinStep : runCtr { (cx Try.prog ctsQE) with hints := hsQPinStep } 20 cQPinStep [(0,[14])] [(0,[14])] = tQPinStep := by kernel_rfl

def hsQPinAt : List (Nat × Nat × List Nat) := []
def tQPinAt : Tree := (.and (.opn 0 14 (.br (.cmp .eql (.var 5) (.lit 9))
 (.ext (.mk 14 [.ex (.var 1), .ex (.var 2), .ex (.var 3), .ex (.var 4), .ex (.var 5), .ex (.var 6), .ex (.var 7)]) (.ret [.var 8, .ex (.var 6), .ex (.var 7)]))
 (.ext (.mk 14 [.ex (.var 1), .ex (.var 2), .ex (.var 3), .ex (.var 4), .ex (.var 5), .ex (.var 6), .ex (.var 7)]) (.ret [.var 8, .ex (.lit 0), .ex (.lit 14)]))))
 (.nomore 0 [14]))
theorem rQPinAt : runCtr { (cx Try.prog []) with hints := hsQPinAt } 20 cQPinAt [(0,[14])] [(0,[14])] = tQPinAt := by kernel_rfl

def hsQNewUnp : List (Nat × Nat × List Nat) := []
def tQNewUnp : Tree := (.br (.cmp .lss (.var 3) (.lit 0))
 (.ext (.mk 19 [.ex (.lit 0), .ex (.lit 0), .ex (.lit 0), .ex (.lit 0), .ex (.lit 9), .ex (.lit 3)]) (.ret [.var 4]))
 (.br (.cmp .geq (.var 3) (.var 2))
 (.ext (.mk 19 [.ex (.lit 0), .ex (.lit 0), .ex (.lit 0), .ex (.lit 0), .ex (.lit 9), .ex (.lit 3)]) (.ret [.var 4]))
 (.ext (.mk 19 [.ex (.var 0), .ex (.var 1), .ex (.var 2), .ex (.var 3), .ex (.lit 1), .ex (.lit 0)]) (.ret [.var 4]))))
theorem rQNewUnp : runCtr { (cx Try.prog []) with hints := hsQNewUnp } 20 cQNewUnp [] [(0,[19])] = tQNewUnp := by kernel_rfl

def hsQUnpStep : List (Nat × Nat × List Nat) := []
def tQUnpStep : Tree := (.and (.opn 0 19 (.br (.cmp .eql (.var 6) (.lit 1))
 (.and (.call 1 [.var 1, .ex (.bin .add .i64 (.var 3) (.var 5)), .ex (.lit 0)] (.ext (.mk 19 [.ex (.var 2), .ex (.var 3), .ex (.var 4), .ex (.var 5), .ex (.lit 9), .ex (.var 7)]) (.ret [.var 9, .var 8, .bx (.lit true)]))) .ok)
 (.ext (.mk 19 [.ex (.var 2), .ex (.var 3), .ex (.var 4), .ex (.var 5), .ex (.var 6), .ex (.var 7)]) (.ret [.var 8, .var 1, .bx (.cmp .eql (.var 6) (.lit 9))]))))
 (.nomore 0 [19]))
theorem rQUnpStep : runCtr { (cx Try.prog ctsQE) with hints := hsQUnpStep } 20 cQUnpStep [(0,[19])] [(0,[19])] = tQUnpStep := by kernel_rfl

def hsQUnpErr : List (Nat × Nat × List Nat) := []
def tQUnpErr : Tree := (.and (.opn 0 19 (.and (.br (.cmp .eql (.var 5) (.lit 9))
 (.ext (.mk 19 [.ex (.var 1), .ex (.var 2), .ex (.var 3), .ex (.var 4), .ex (.var 5), .ex (.var 6)]) (.ret [.var 7, .ex (.var 6)]))
 (.ext (.mk 19 [.ex (.var 1), .ex (.var 2), .ex (.var 3), .ex (.var 4), .ex (.var 5), .ex (.var 6)]) (.ret [.var 7, .ex (.lit 14)]))) .ok))
 (.nomore 0 [19]))
theorem rQUnpErr : runCtr { (cx Try.prog []) with hints := hsQUnpErr } 20 cQUnpErr [(0,[19])] [(0,[19])] = tQUnpErr := by kernel_rfl

def hsQNewAdv : List (Nat × Nat × List Nat) := []
def tQNewAdv : Tree := (.br (.cmp .lss (.var 3) (.lit 0))
 (.ext (.mk 24 [.ex (.lit 0), .ex (.lit 0), .ex (.lit 0), .ex (.lit 0), .ex (.lit 0), .ex (.lit 9), .ex (.lit 0), .ex (.lit 0), .ex (.lit 3)]) (.ret [.var 5]))
 (.br (.cmp .geq (.var 3) (.var 2))
 (.ext (.mk 24 [.ex (.lit 0), .ex (.lit 0), .ex (.lit 0), .ex (.lit 0), .ex (.lit 0), .ex (.lit 9), .ex (.lit 0), .ex (.lit 0), .ex (.lit 3)]) (.ret [.var 5]))
 (.ext (.mk 24 [.ex (.var 0), .ex (.var 1), .ex (.var 2), .ex (.var 3), .ex (.var 4), .ex (.lit 1), .ex (.lit 0), .ex (.lit 0), .ex (.lit 0)]) (.ret [.var 5]))))
theorem rQNewAdv : runCtr { (cx Try.prog []) with hints := hsQNewAdv } 20 cQNewAdv [] [(0,[24])] = tQNewAdv := by kernel_rfl

def hsQAdvStep : List (Nat × Nat × List Nat) := []
def tQAdvStep : Tree := (.and (.opn 0 24 (.br (.cmp .eql (.var 7) (.lit 1))
 (.call 0 [.var 1, .ex (.var 2)] (.and (.br (.cmp .eql (.conv .i64 (.bin .rem .u64 (.var 12) (.lit 4294967296))) (.var 6))
 (.br (.cmp .eql (.var 9) (.var 5))
 (.br (.cmp .geq (.bin .add .i64 (.var 9) (.lit 1)) (.var 4))
 (.ext (.mk 24 [.ex (.var 2), .ex (.var 3), .ex (.var 4), .ex (.var 5), .ex (.var 6), .ex (.lit 3), .ex (.var 12), .ex (.bin .add .i64 (.var 9) (.lit 1)), .ex (.var 10)]) (.ret [.var 13, .var 11, .bx (.lit false)]))
 (.ext (.mk 24 [.ex (.var 2), .ex (.var 3), .ex (.var 4), .ex (.var 5), .ex (.var 6), .ex (.lit 2), .ex (.var 12), .ex (.bin .add .i64 (.var 9) (.lit 1)), .ex (.var 10)]) (.ret [.var 13, .var 11, .bx (.lit false)])))
 (.br (.cmp .geq (.var 9) (.var 4))
 (.ext (.mk 24 [.ex (.var 2), .ex (.var 3), .ex (.var 4), .ex (.var 5), .ex (.var 6), .ex (.lit 3), .ex (.var 12), .ex (.var 9), .ex (.var 10)]) (.ret [.var 13, .var 11, .bx (.lit false)]))
 (.ext (.mk 24 [.ex (.var 2), .ex (.var 3), .ex (.var 4), .ex (.var 5), .ex (.var 6), .ex (.lit 2), .ex (.var 12), .ex (.var 9), .ex (.var 10)]) (.ret [.var 13, .var 11, .bx (.lit false)]))))
 (.ext (.mk 24 [.ex (.var 2), .ex (.var 3), .ex (.var 4), .ex (.var 5), .ex (.var 6), .ex (.lit 9), .ex (.var 12), .ex (.var 9), .ex (.lit 14)]) (.ret [.var 13, .var 11, .bx (.lit true)]))) .ok))
 (.br (.cmp .eql (.var 7) (.lit 2))
 (.and (.call 0 [.var 1, .ex (.bin .add .i64 (.var 3) (.var 9))] (.br (.cmp .eql (.var 12) (.lit 0))
 (.br (.cmp .eql (.bin .add .i64 (.var 9) (.lit 1)) (.var 5))
 (.br (.cmp .geq (.bin .add .i64 (.bin .add .i64 (.var 9) (.lit 1)) (.lit 1)) (.var 4))
 (.ext (.mk 24 [.ex (.var 2), .ex (.var 3), .ex (.var 4), .ex (.var 5), .ex (.var 6), .ex (.lit 3), .ex (.var 8), .ex (.bin .add .i64 (.bin .add .i64 (.var 9) (.lit 1)) (.lit 1)), .ex (.var 10)]) (.ret [.var 13, .var 11, .bx (.lit false)]))
 (.ext (.mk 24 [.ex (.var 2), .ex (.var 3), .ex (.var 4), .ex (.var 5), .ex (.var 6), .ex (.lit 2), .ex (.var 8), .ex (.bin .add .i64 (.bin .add .i64 (.var 9) (.lit 1)) (.lit 1)), .ex (.var 10)]) (.ret [.var 13, .var 11, .bx (.lit false)])))
 (.br (.cmp .geq (.bin .add .i64 (.var 9) (.lit 1)) (.var 4))
 (.ext (.mk 24 [.ex (.var 2), .ex (.var 3), .ex (.var 4), .ex (.var 5), .ex (.var 6), .ex (.lit 3), .ex (.var 8), .ex (.bin .add .i64 (.var 9) (.lit 1)), .ex (.var 10)]) (.ret [.var 13, .var 11, .bx (.lit false)]))
 (.ext (.mk 24 [.ex (.var 2), .ex (.var 3), .ex (.var 4), .ex (.var 5), .ex (.var 6), .ex (.lit 2), .ex (.var 8), .ex (.bin .add .i64 (.var 9) (.lit 1)), .ex (.var 10)]) (.ret [.var 13, .var 11, .bx (.lit false)]))))
 (.br (.cmp .eql (.var 12) (.bin .add .u64 (.conv .u64 (.var 6)) (.lit 1)))
 (.br (.cmp .eql (.bin .add .i64 (.var 9) (.lit 1)) (.var 5))
 (.br (.cmp .geq (.bin .add .i64 (.bin .add .i64 (.var 9) (.lit 1)) (.lit 1)) (.var 4))
 (.ext (.mk 24 [.ex (.var 2), .ex (.var 3), .ex (.var 4), .ex (.var 5), .ex (.var 6), .ex (.lit 3), .ex (.var 8), .ex (.bin .add .i64 (.bin .add .i64 (.var 9) (.lit 1)) (.lit 1)), .ex (.var 10)]) (.ret [.var 13, .var 11, .bx (.lit false)]))
 (.ext (.mk 24 [.ex (.var 2), .ex (.var 3), .ex (.var 4), .ex (.var 5), .ex (.var 6), .ex (.lit 2), .ex (.var 8), .ex (.bin .add .i64 (.bin .add .i64 (.var 9) (.lit 1)) (.lit 1)), .ex (.var 10)]) (.ret [.var 13, .var 11, .bx (.lit false)])))
 (.br (.cmp .geq (.bin .add .i64 (.var 9) (.lit 1)) (.var 4))
 (.ext (.mk 24 [.ex (.var 2), .ex (.var 3), .ex (.var 4), .ex (.var 5), .ex (.var 6), .ex (.lit 3), .ex (.var 8), .ex (.bin .add .i64 (.var 9) (.lit 1)), .ex (.var 10)]) (.ret [.var 13, .var 11, .bx (.lit false)]))
 (.ext (.mk 24 [.ex (.var 2), .ex (.var 3), .ex (.var 4), .ex (.var 5), .ex (.var 6), .ex (.lit 2), .ex (.var 8), .ex (.bin .add .i64 (.var 9) (.lit 1)), .ex (.var 10)]) (.ret [.var 13, .var 11, .bx (.lit false)]))))
 (.ext (.mk 24 [.ex (.var 2), .ex (.var 3), .ex (.var 4), .ex (.var 5), .ex (.var 6), .ex (.lit 9), .ex (.var 8), .ex (.bin .add .i64 (.var 9) (.lit 1)), .ex (.lit 14)]) (.ret [.var 13, .var 11, .bx (.lit true)]))))) .ok)
 (.br (.cmp .eql (.var 7) (.lit 3))
 (.and (.call 2 [.var 1, .ex (.var 2), .ex (.var 8), .ex (.bin .add .u64 (.conv .u64 (.var 6)) (.lit 1))] (.br (.var 12)
 (.ext (.mk 24 [.ex (.var 2), .ex (.var 3), .ex (.var 4), .ex (.var 5), .ex (.var 6), .ex (.lit 9), .ex (.var 8), .ex (.var 9), .ex (.lit 0)]) (.ret [.var 13, .var 11, .bx (.lit true)]))
 (.ext (.mk 24 [.ex (.var 2), .ex (.var 3), .ex (.var 4), .ex (.var 5), .ex (.var 6), .ex (.lit 9), .ex (.var 8), .ex (.var 9), .ex (.lit 14)]) (.ret [.var 13, .var 11, .bx (.lit true)])))) .ok)
 (.ext (.mk 24 [.ex (.var 2), .ex (.var 3), .ex (.var 4), .ex (.var 5), .ex (.var 6), .ex (.var 7), .ex (.var 8), .ex (.var 9), .ex (.var 10)]) (.ret [.var 11, .var 1, .bx (.cmp .eql (.var 7) (.lit 9))]))))))
 (.nomore 0 [24]))
theorem rQAdvStep : runCtr { (cx Try.prog ctsQE) with hints := hsQAdvStep } 20 cQAdvStep [(0,[24])] [(0,[24])] = tQAdvStep := by kernel_rfl

def hsQAdvErr : List (Nat × Nat × List Nat) := []
def tQAdvErr : Tree := (.and (.opn 0 24 (.and (.br (.cmp .eql (.var 6) (.lit 9))
 (.ext (.mk 24 [.ex (.var 1), .ex (.var 2), .ex (.var 3), .ex (.var 4), .ex (.var 5), .ex (.var 6), .ex (.var 7), .ex (.var 8), .ex (.var 9)]) (.ret [.var 10, .ex (.var 9)]))
 (.ext (.mk 24 [.ex (.var 1), .ex (.var 2), .ex (.var 3), .ex (.var 4), .ex (.var 5), .ex (.var 6), .ex (.var 7), .ex (.var 8), .ex (.var 9)]) (.ret [.var 10, .ex (.lit 14)]))) .ok))
 (.nomore 0 [24]))
theorem rQAdvErr : runCtr { (cx Try.prog []) with hints := hsQAdvErr } 20 cQAdvErr [(0,[24])] [(0,[24])] = tQAdvErr := by kernel_rfl

end Go.Proofs.Ytjohihkbampbgaa
