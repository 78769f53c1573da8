/- The ways of the runs, as a program of ours printed them. -/
import Derived.Test.YtjohihkbampbgaaEc
import Derived.KernelRfl
namespace Go.Proofs.Ytjohihkbampbgaa
set_option linter.unusedVariables false
set_option linter.unusedSimpArgs false
set_option linter.unusedSectionVars false
open Go
set_option maxRecDepth 100000

def hsEFits : List (Nat × Nat × List Nat) := []
def tEFits : Tree := (.br (.cmp .lss (.var 3) (.lit 1))
 (.ret [.ex (.lit 3)])
 (.br (.cmp .gtr (.var 3) (.lit 4096))
 (.ret [.ex (.lit 3)])
 (.br (.cmp .geq (.var 2) (.lit 1))
 (.br (.cmp .leq (.var 2) (.lit 64))
 (.br (.cmp .lss (.var 0) (.lit 0))
 (.ret [.ex (.lit 2)])
 (.br (.cmp .geq (.var 0) (.var 3))
 (.ret [.ex (.lit 2)])
 (.br (.cmp .lss (.var 1) (.lit 0))
 (.ret [.ex (.lit 2)])
 (.br (.cmp .gtr (.var 1) (.bin .sub .i64 (.var 3) (.var 2)))
 (.ret [.ex (.lit 2)])
 (.br (.cmp .geq (.var 0) (.var 1))
 (.br (.cmp .lss (.var 0) (.bin .add .i64 (.var 1) (.var 2)))
 (.ret [.ex (.lit 2)])
 (.ret [.ex (.lit 0)]))
 (.ret [.ex (.lit 0)]))))))
 (.ret [.ex (.lit 2)]))
 (.ret [.ex (.lit 2)]))))
theorem rEFits : runCtr { (cx Try.prog []) with hints := hsEFits } 20 cEFits [] [] = tEFits := by kernel_rfl

def hsEFill : List (Nat × Nat × List Nat) := []
def tEFillL0 : Tree := (.br (.cmp .lss (.var 7) (.var 3))
 (.call 1 [.var 6, .ex (.bin .add .i64 (.var 2) (.var 7)), .ex (.lit 0)] (.back 0 6 [.var 8, .ex (.bin .add .i64 (.var 7) (.lit 1))]))
 (.ret [.var 6]))
def tEFill : Tree := (.br (.cmp .geq (.var 3) (.lit 1))
 (.br (.cmp .leq (.var 3) (.lit 64))
 (.call 1 [.var 0, .ex (.var 1), .ex (.lit 0)] (.rng (.loop 0 6 [.var 4, .ex (.lit 0)] tEFillL0)))
 (.ret [.var 0]))
 (.ret [.var 0]))
theorem rEFill : runCtr { (cxEF Try.prog lEFill) with hints := hsEFill } 20 cEFill [] [] = tEFill := by kernel_rfl

def hsEFillNil : List (Nat × Nat × List Nat) := []
def tEFillNilL0 : Tree := (.br (.cmp .lss (.var 4) (.var 2))
 (.back 0 4 [.ex (.bin .add .i64 (.var 4) (.lit 1))])
 (.ret []))
def tEFillNil : Tree := (.br (.cmp .geq (.var 2) (.lit 1))
 (.br (.cmp .leq (.var 2) (.lit 64))
 (.rng (.loop 0 4 [.ex (.lit 0)] tEFillNilL0))
 (.ret []))
 (.ret []))
theorem rEFillNil : runCtr { (cxEF Try.prog lEFillNil) with hints := hsEFillNil } 20 cEFillNil [] [] = tEFillNil := by kernel_rfl

def hsENow : List (Nat × Nat × List Nat) := []
def tENow : Tree := (.and (.call 6 [.var 0] (.and (.br (.cmp .lss (.var 1) (.lit 0))
 (.ret [.var 4, .ex (.lit 0)])
 (.need (.cmp .leq (.lit 0) (.var 6)) (.br (.cmp .geq (.var 1) (.var 6))
 (.ret [.var 4, .ex (.lit 0)])
 (.need (.cmp .leq (.lit 0) (.var 1)) (.need (.cmp .lss (.var 1) (.var 6)) (.need (.cmp .lss (.var 1) (.len 5)) (.need (.cmp .leq (.lit 0) (.var 1)) (.need (.cmp .lss (.var 1) (.len 5)) (.ret [.var 4, .ex (.conv .i64 (.conv .u32 (.nth 5 (.var 1))))]))))))))) .ok)) .ok)
theorem rENow : runCtr { (cx Try.prog ctsM) with hints := hsENow } 20 cENow [] [] = tENow := by kernel_rfl

def hsEPinned : List (Nat × Nat × List Nat) := []
def tEPinnedL0 : Tree := (.br (.cmp .lss (.var 8) (.var 3))
 (.br (.cmp .lss (.bin .add .i64 (.var 2) (.var 8)) (.lit 0))
 (.need (.cmp .leq (.lit 0) (.var 8)) (.need (.cmp .leq (.var 8) (.var 10)) (.need (.cmp .leq (.var 10) (.len 9)) (.need (.cmp .leq (.len 9) (.var 10)) (.need (.cmp .leq (.var 8) (.lit 1000000)) (.app (some 9) (.var 8) (.lit (-1)) (.back 0 8 [.ex (.bin .add .i64 (.var 8) (.lit 1)), .var 11, .ex (.var 12)])))))))
 (.need (.cmp .leq (.lit 0) (.var 6)) (.br (.cmp .geq (.bin .add .i64 (.var 2) (.var 8)) (.var 6))
 (.need (.cmp .leq (.lit 0) (.var 8)) (.need (.cmp .leq (.var 8) (.var 10)) (.need (.cmp .leq (.var 10) (.len 9)) (.need (.cmp .leq (.len 9) (.var 10)) (.need (.cmp .leq (.var 8) (.lit 1000000)) (.app (some 9) (.var 8) (.lit (-1)) (.back 0 8 [.ex (.bin .add .i64 (.var 8) (.lit 1)), .var 11, .ex (.var 12)])))))))
 (.need (.cmp .leq (.lit 0) (.bin .add .i64 (.var 2) (.var 8))) (.need (.cmp .lss (.bin .add .i64 (.var 2) (.var 8)) (.var 6)) (.need (.cmp .lss (.bin .add .i64 (.var 2) (.var 8)) (.len 5)) (.need (.cmp .leq (.lit 0) (.bin .add .i64 (.var 2) (.var 8))) (.need (.cmp .lss (.bin .add .i64 (.var 2) (.var 8)) (.len 5)) (.br (.cmp .eql (.nth 5 (.bin .add .i64 (.var 2) (.var 8))) (.lit 0))
 (.need (.cmp .leq (.lit 0) (.var 8)) (.need (.cmp .leq (.var 8) (.var 10)) (.need (.cmp .leq (.var 10) (.len 9)) (.need (.cmp .leq (.len 9) (.var 10)) (.need (.cmp .leq (.var 8) (.lit 1000000)) (.app (some 9) (.var 8) (.lit (-1)) (.back 0 8 [.ex (.bin .add .i64 (.var 8) (.lit 1)), .var 11, .ex (.var 12)])))))))
 (.need (.cmp .leq (.lit 0) (.var 8)) (.need (.cmp .leq (.var 8) (.var 10)) (.need (.cmp .leq (.var 10) (.len 9)) (.need (.cmp .leq (.len 9) (.var 10)) (.need (.cmp .leq (.var 8) (.lit 1000000)) (.app (some 9) (.var 8) (.conv .i64 (.conv .u32 (.bin .sub .u64 (.nth 5 (.bin .add .i64 (.var 2) (.var 8))) (.lit 1)))) (.back 0 8 [.ex (.bin .add .i64 (.var 8) (.lit 1)), .var 11, .ex (.var 12)]))))))))))))))))
 (.ret [.var 4, .var 9, .ex (.var 8), .ex (.var 10)]))
def tEPinned : Tree := (.br (.cmp .geq (.var 3) (.lit 1))
 (.br (.cmp .leq (.var 3) (.lit 64))
 (.call 6 [.var 0] (.rng (.ext (.lst []) (.loop 0 8 [.ex (.lit 0), .var 8, .ex (.lit 0)] tEPinnedL0))))
 (.ext (.lst []) (.ret [.var 0, .var 4, .ex (.lit 0), .ex (.lit 0)])))
 (.ext (.lst []) (.ret [.var 0, .var 4, .ex (.lit 0), .ex (.lit 0)])))
theorem rEPinned : runCtr { (cxEF Try.prog lEPinned) with hints := hsEPinned } 20 cEPinned [] [] = tEPinned := by kernel_rfl

def hsEPinnedNil : List (Nat × Nat × List Nat) := []
def tEPinnedNilL0 : Tree := (.br (.cmp .lss (.var 4) (.var 2))
 (.br (.cmp .lss (.bin .add .i64 (.var 1) (.var 4)) (.lit 0))
 (.need (.cmp .leq (.lit 0) (.var 4)) (.need (.cmp .leq (.var 4) (.var 6)) (.need (.cmp .leq (.var 6) (.len 5)) (.need (.cmp .leq (.len 5) (.var 6)) (.need (.cmp .leq (.var 4) (.lit 1000000)) (.app (some 5) (.var 4) (.lit (-1)) (.back 0 4 [.ex (.bin .add .i64 (.var 4) (.lit 1)), .var 7, .ex (.var 8)])))))))
 (.need (.cmp .leq (.lit 0) (.var 4)) (.need (.cmp .leq (.var 4) (.var 6)) (.need (.cmp .leq (.var 6) (.len 5)) (.need (.cmp .leq (.len 5) (.var 6)) (.need (.cmp .leq (.var 4) (.lit 1000000)) (.app (some 5) (.var 4) (.lit (-1)) (.back 0 4 [.ex (.bin .add .i64 (.var 4) (.lit 1)), .var 7, .ex (.var 8)]))))))))
 (.ret [.var 5, .ex (.var 4), .ex (.var 6)]))
def tEPinnedNil : Tree := (.br (.cmp .geq (.var 2) (.lit 1))
 (.br (.cmp .leq (.var 2) (.lit 64))
 (.rng (.ext (.lst []) (.loop 0 4 [.ex (.lit 0), .var 4, .ex (.lit 0)] tEPinnedNilL0)))
 (.ext (.lst []) (.ret [.var 3, .ex (.lit 0), .ex (.lit 0)])))
 (.ext (.lst []) (.ret [.var 3, .ex (.lit 0), .ex (.lit 0)])))
theorem rEPinnedNil : runCtr { (cxEF Try.prog lEPinnedNil) with hints := hsEPinnedNil } 20 cEPinnedNil [] [] = tEPinnedNil := by kernel_rfl

def hsTurn : List (Nat × Nat × List Nat) := [(122, 5, [0])]
def tTurnL0 : Tree := (.br (.cmp .lss (.var 11) (.var 4))
 (.br (.cmp .geq (.var 11) (.var 9))
 (.br (.cmp .eql (.var 11) (.var 5))
 (.back 0 11 [.ex (.bin .add .i64 (.var 11) (.lit 1))])
 (.and (.and (.ret [.ex (.lit 1), .ex (.var 11)]) .ok) .ok))
 (.back 0 11 [.ex (.bin .add .i64 (.var 11) (.lit 1))]))
 (.ret [.ex (.lit 2), .ex (.var 8)]))
def tTurn : Tree := (.rng (.loop 0 11 [.ex (.lit 0)] tTurnL0))
theorem rTurn : runCtr { (cxEF Try.prog lTurn) with hints := hsTurn } 20 cTurn [] [] = tTurn := by kernel_rfl

def hsENewPin : List (Nat × Nat × List Nat) := []
def tENewPin : Tree := (.br (.cmp .lss (.var 3) (.lit 0))
 (.ext (.mk 12 [.ex (.var 0), .ex (.var 1), .ex (.var 2)]) (.ret [.var 4]))
 (.br (.cmp .geq (.var 3) (.var 2))
 (.ext (.mk 12 [.ex (.var 0), .ex (.var 1), .ex (.var 2)]) (.ret [.var 4]))
 (.ext (.mk 11 [.ex (.lit 0), .ex (.lit 0), .ex (.var 0), .ex (.var 1), .ex (.var 2), .ex (.bin .add .i64 (.var 1) (.var 3)), .ex (.lit 0)]) (.ret [.var 4]))))
theorem rENewPin : runCtr { (cx Try.prog []) with hints := hsENewPin } 20 cENewPin [] [(0,[11,12])] = tENewPin := by kernel_rfl

def hsEPinStep : List (Nat × Nat × List Nat) := [(95, 3, [0])]
def tEPinStep : Tree := (.and (.opn 0 11 (.br (.cmp .eql (.var 2) (.lit (-1)))
 (.ext (.mk 11 [.ex (.var 2), .ex (.var 3), .ex (.var 4), .ex (.var 5), .ex (.var 6), .ex (.var 7), .ex (.var 8)]) (.ret [.var 9, .var 1, .bx (.lit true)]))
 (.and (.and (.br (.cmp .eql (.var 2) (.lit 0))
 (.and (.and (.call 0 [.var 1, .ex (.var 4)] (.ext (.mk 11 [.ex (.lit 1), .ex (.var 3), .ex (.var 4), .ex (.var 5), .ex (.var 6), .ex (.var 7), .ex (.conv .u32 (.var 10))]) (.ret [.var 11, .var 9, .bx (.lit false)]))) .ok) .ok)
 (.br (.cmp .eql (.var 2) (.lit 1))
 (.and (.and (.and (.call 1 [.var 1, .ex (.var 7), .ex (.bin .add .u64 (.conv .u64 (.var 8)) (.lit 1))] (.ext (.mk 11 [.ex (.lit 2), .ex (.var 3), .ex (.var 4), .ex (.var 5), .ex (.var 6), .ex (.var 7), .ex (.var 8)]) (.ret [.var 10, .var 9, .bx (.lit false)]))) .ok) .ok) .ok)
 (.br (.cmp .eql (.var 2) (.lit 2))
 (.and (.and (.call 0 [.var 1, .ex (.var 4)] (.br (.cmp .eql (.conv .u32 (.var 10)) (.var 8))
 (.ext (.mk 11 [.ex (.lit (-1)), .ex (.lit 0), .ex (.var 4), .ex (.var 5), .ex (.var 6), .ex (.var 7), .ex (.var 8)]) (.ret [.var 11, .var 9, .bx (.lit true)]))
 (.ext (.mk 11 [.ex (.lit 1), .ex (.var 3), .ex (.var 4), .ex (.var 5), .ex (.var 6), .ex (.var 7), .ex (.conv .u32 (.var 10))]) (.ret [.var 11, .var 9, .bx (.lit false)])))) .ok) .ok)
 (.need (.lit false) .ok)))) .ok) .ok)))
 (.and (.opn 0 12 (.ext (.mk 12 [.ex (.var 2), .ex (.var 3), .ex (.var 4)]) (.ret [.var 5, .var 1, .bx (.lit true)])))
 (.nomore 0 [11, 12])))
theorem rEPinStep : runCtr { (cx Try.prog ctsM) with hints := hsEPinStep } 20 cEPinStep [(0,[11,12])] [(0,[11,12])] = tEPinStep := by kernel_rfl

def hsEPinAt : List (Nat × Nat × List Nat) := []
def tEPinAt : Tree := (.and (.opn 0 11 (.br (.cmp .eql (.var 1) (.lit (-1)))
 (.br (.cmp .eql (.var 2) (.lit 0))
 (.ext (.mk 11 [.ex (.var 1), .ex (.var 2), .ex (.var 3), .ex (.var 4), .ex (.var 5), .ex (.var 6), .ex (.var 7)]) (.ret [.var 8, .ex (.conv .i64 (.var 7)), .ex (.lit 0)]))
 (.ext (.mk 11 [.ex (.var 1), .ex (.var 2), .ex (.var 3), .ex (.var 4), .ex (.var 5), .ex (.var 6), .ex (.var 7)]) (.ret [.var 8, .ex (.lit 0), .ex (.var 2)])))
 (.ext (.mk 11 [.ex (.var 1), .ex (.var 2), .ex (.var 3), .ex (.var 4), .ex (.var 5), .ex (.var 6), .ex (.var 7)]) (.ret [.var 8, .ex (.lit 0), .ex (.lit 14)]))))
 (.and (.opn 0 12 (.ext (.mk 12 [.ex (.var 1), .ex (.var 2), .ex (.var 3)]) (.ret [.var 4, .ex (.lit 0), .ex (.lit 3)])))
 (.nomore 0 [11, 12])))
theorem rEPinAt : runCtr { (cx Try.prog []) with hints := hsEPinAt } 20 cEPinAt [(0,[11,12])] [(0,[11,12])] = tEPinAt := by kernel_rfl

def hsENewUnp : List (Nat × Nat × List Nat) := []
def tENewUnp : Tree := (.br (.cmp .lss (.var 3) (.lit 0))
 (.ext (.mk 17 [.ex (.bin .add .i64 (.var 1) (.var 3))]) (.ret [.var 4]))
 (.br (.cmp .geq (.var 3) (.var 2))
 (.ext (.mk 17 [.ex (.bin .add .i64 (.var 1) (.var 3))]) (.ret [.var 4]))
 (.ext (.mk 16 [.ex (.lit 0), .ex (.lit 0), .ex (.bin .add .i64 (.var 1) (.var 3))]) (.ret [.var 4]))))
theorem rENewUnp : runCtr { (cx Try.prog []) with hints := hsENewUnp } 20 cENewUnp [] [(0,[16,17])] = tENewUnp := by kernel_rfl

def hsEUnpStep : List (Nat × Nat × List Nat) := [(95, 3, [0])]
def tEUnpStep : Tree := (.and (.opn 0 16 (.br (.cmp .eql (.var 2) (.lit (-1)))
 (.ext (.mk 16 [.ex (.var 2), .ex (.var 3), .ex (.var 4)]) (.ret [.var 5, .var 1, .bx (.lit true)]))
 (.and (.and (.br (.cmp .eql (.var 2) (.lit 0))
 (.and (.and (.call 1 [.var 1, .ex (.var 4), .ex (.lit 0)] (.ext (.mk 16 [.ex (.lit (-1)), .ex (.lit 0), .ex (.var 4)]) (.ret [.var 6, .var 5, .bx (.lit true)]))) .ok) .ok)
 (.br (.cmp .eql (.var 2) (.lit 1))
 (.and (.and (.need (.lit false) .ok) .ok) .ok)
 (.br (.cmp .eql (.var 2) (.lit 2))
 (.and (.and (.need (.lit false) .ok) .ok) .ok)
 (.need (.lit false) .ok)))) .ok) .ok)))
 (.and (.opn 0 17 (.ext (.mk 17 [.ex (.var 2)]) (.ret [.var 3, .var 1, .bx (.lit true)])))
 (.nomore 0 [16, 17])))
theorem rEUnpStep : runCtr { (cx Try.prog ctsM) with hints := hsEUnpStep } 20 cEUnpStep [(0,[16,17])] [(0,[16,17])] = tEUnpStep := by kernel_rfl

def hsEUnpErr : List (Nat × Nat × List Nat) := []
def tEUnpErr : Tree := (.and (.opn 0 16 (.br (.cmp .eql (.var 1) (.lit (-1)))
 (.ext (.mk 16 [.ex (.var 1), .ex (.var 2), .ex (.var 3)]) (.ret [.var 4, .ex (.var 2)]))
 (.ext (.mk 16 [.ex (.var 1), .ex (.var 2), .ex (.var 3)]) (.ret [.var 4, .ex (.lit 14)]))))
 (.and (.opn 0 17 (.ext (.mk 17 [.ex (.var 1)]) (.ret [.var 2, .ex (.lit 3)])))
 (.nomore 0 [16, 17])))
theorem rEUnpErr : runCtr { (cx Try.prog []) with hints := hsEUnpErr } 20 cEUnpErr [(0,[16,17])] [(0,[16,17])] = tEUnpErr := by kernel_rfl

def hsENewAdv : List (Nat × Nat × List Nat) := []
def tENewAdv : Tree := (.br (.cmp .lss (.var 3) (.lit 0))
 (.ext (.mk 22 [.ex (.var 0), .ex (.var 1), .ex (.var 2), .ex (.var 3), .ex (.var 4)]) (.ret [.var 5]))
 (.br (.cmp .geq (.var 3) (.var 2))
 (.ext (.mk 22 [.ex (.var 0), .ex (.var 1), .ex (.var 2), .ex (.var 3), .ex (.var 4)]) (.ret [.var 5]))
 (.ext (.mk 21 [.ex (.lit 0), .ex (.lit 0), .ex (.var 0), .ex (.var 1), .ex (.var 2), .ex (.var 3), .ex (.var 4), .ex (.lit 0), .ex (.lit 0)]) (.ret [.var 5]))))
theorem rENewAdv : runCtr { (cx Try.prog []) with hints := hsENewAdv } 20 cENewAdv [] [(0,[21,22])] = tENewAdv := by kernel_rfl

def hsEAdvStep : List (Nat × Nat × List Nat) := [(95, 3, [0])]
def tEAdvStep : Tree := (.and (.opn 0 21 (.br (.cmp .eql (.var 2) (.lit (-1)))
 (.ext (.mk 21 [.ex (.var 2), .ex (.var 3), .ex (.var 4), .ex (.var 5), .ex (.var 6), .ex (.var 7), .ex (.var 8), .ex (.var 9), .ex (.var 10)]) (.ret [.var 11, .var 1, .bx (.lit true)]))
 (.and (.and (.br (.cmp .eql (.var 2) (.lit 0))
 (.and (.and (.call 0 [.var 1, .ex (.var 4)] (.br (.cmp .eql (.conv .i64 (.conv .u32 (.var 12))) (.var 8))
 (.call 9 [.ex (.var 2), .ex (.var 3), .ex (.var 4), .ex (.var 5), .ex (.var 6), .ex (.var 7), .ex (.var 8), .ex (.var 12), .ex (.var 10), .ex (.lit 0)] (.ext (.mk 21 [.ex (.var 13), .ex (.var 3), .ex (.var 4), .ex (.var 5), .ex (.var 6), .ex (.var 7), .ex (.var 8), .ex (.var 12), .ex (.var 14)]) (.ret [.var 15, .var 11, .bx (.cmp .eql (.var 13) (.lit (-1)))])))
 (.ext (.mk 21 [.ex (.lit (-1)), .ex (.lit 14), .ex (.var 4), .ex (.var 5), .ex (.var 6), .ex (.var 7), .ex (.var 8), .ex (.var 12), .ex (.var 10)]) (.ret [.var 13, .var 11, .bx (.lit true)])))) .ok) .ok)
 (.br (.cmp .eql (.var 2) (.lit 1))
 (.and (.and (.and (.call 0 [.var 1, .ex (.bin .add .i64 (.var 5) (.var 10))] (.br (.cmp .eql (.var 12) (.lit 0))
 (.call 9 [.ex (.var 2), .ex (.var 3), .ex (.var 4), .ex (.var 5), .ex (.var 6), .ex (.var 7), .ex (.var 8), .ex (.var 9), .ex (.var 10), .ex (.bin .add .i64 (.var 10) (.lit 1))] (.ext (.mk 21 [.ex (.var 13), .ex (.var 3), .ex (.var 4), .ex (.var 5), .ex (.var 6), .ex (.var 7), .ex (.var 8), .ex (.var 9), .ex (.var 14)]) (.ret [.var 15, .var 11, .bx (.cmp .eql (.var 13) (.lit (-1)))])))
 (.br (.cmp .eql (.var 12) (.bin .add .u64 (.conv .u64 (.conv .u32 (.var 9))) (.lit 1)))
 (.call 9 [.ex (.var 2), .ex (.var 3), .ex (.var 4), .ex (.var 5), .ex (.var 6), .ex (.var 7), .ex (.var 8), .ex (.var 9), .ex (.var 10), .ex (.bin .add .i64 (.var 10) (.lit 1))] (.ext (.mk 21 [.ex (.var 13), .ex (.var 3), .ex (.var 4), .ex (.var 5), .ex (.var 6), .ex (.var 7), .ex (.var 8), .ex (.var 9), .ex (.var 14)]) (.ret [.var 15, .var 11, .bx (.cmp .eql (.var 13) (.lit (-1)))])))
 (.ext (.mk 21 [.ex (.lit (-1)), .ex (.lit 14), .ex (.var 4), .ex (.var 5), .ex (.var 6), .ex (.var 7), .ex (.var 8), .ex (.var 9), .ex (.var 10)]) (.ret [.var 13, .var 11, .bx (.lit true)]))))) .ok) .ok) .ok)
 (.br (.cmp .eql (.var 2) (.lit 2))
 (.and (.and (.and (.call 2 [.var 1, .ex (.var 4), .ex (.var 9), .ex (.bin .add .u64 (.conv .u64 (.conv .u32 (.var 9))) (.lit 1))] (.br (.var 12)
 (.ext (.mk 21 [.ex (.lit (-1)), .ex (.lit 0), .ex (.var 4), .ex (.var 5), .ex (.var 6), .ex (.var 7), .ex (.var 8), .ex (.var 9), .ex (.var 10)]) (.ret [.var 13, .var 11, .bx (.lit true)]))
 (.ext (.mk 21 [.ex (.lit (-1)), .ex (.lit 14), .ex (.var 4), .ex (.var 5), .ex (.var 6), .ex (.var 7), .ex (.var 8), .ex (.var 9), .ex (.var 10)]) (.ret [.var 13, .var 11, .bx (.lit true)])))) .ok) .ok) .ok)
 (.need (.lit false) .ok)))) .ok) .ok)))
 (.and (.opn 0 22 (.ext (.mk 22 [.ex (.var 2), .ex (.var 3), .ex (.var 4), .ex (.var 5), .ex (.var 6)]) (.ret [.var 7, .var 1, .bx (.lit true)])))
 (.nomore 0 [21, 22])))
theorem rEAdvStep : runCtr { (cx Try.prog ctsT) with hints := hsEAdvStep } 20 cEAdvStep [(0,[21,22])] [(0,[21,22])] = tEAdvStep := by kernel_rfl

def hsEAdvErr : List (Nat × Nat × List Nat) := []
def tEAdvErr : Tree := (.and (.opn 0 21 (.br (.cmp .eql (.var 1) (.lit (-1)))
 (.ext (.mk 21 [.ex (.var 1), .ex (.var 2), .ex (.var 3), .ex (.var 4), .ex (.var 5), .ex (.var 6), .ex (.var 7), .ex (.var 8), .ex (.var 9)]) (.ret [.var 10, .ex (.var 2)]))
 (.ext (.mk 21 [.ex (.var 1), .ex (.var 2), .ex (.var 3), .ex (.var 4), .ex (.var 5), .ex (.var 6), .ex (.var 7), .ex (.var 8), .ex (.var 9)]) (.ret [.var 10, .ex (.lit 14)]))))
 (.and (.opn 0 22 (.ext (.mk 22 [.ex (.var 1), .ex (.var 2), .ex (.var 3), .ex (.var 4), .ex (.var 5)]) (.ret [.var 6, .ex (.lit 3)])))
 (.nomore 0 [21, 22])))
theorem rEAdvErr : runCtr { (cx Try.prog []) with hints := hsEAdvErr } 20 cEAdvErr [(0,[21,22])] [(0,[21,22])] = tEAdvErr := by kernel_rfl

end Go.Proofs.Ytjohihkbampbgaa
