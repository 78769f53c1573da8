/- The ways of the runs, as a program of ours printed them. -/
import Derived.Test.YtbmbiiiacajolaaTo
import Derived.KernelRfl
namespace Go.Proofs.Ytbmbiiiacajolaa
set_option linter.unusedVariables false
set_option linter.unusedSimpArgs false
set_option linter.unusedSectionVars false
open Go
set_option maxRecDepth 100000

def hsIdx : List (Nat × Nat × List Nat) := []
def tIdx : Tree := (.and (.and (.and (.br (.cmp .geq (.bin .sub .i64 (.conv .i64 (.bin .and .u64 (.bin .shr .u64 (.var 0) (.lit 0)) (.lit 65535))) (.lit 1)) (.lit 3))
 (.ret [.ex (.lit (-1))])
 (.ret [.ex (.bin .sub .i64 (.conv .i64 (.bin .and .u64 (.bin .shr .u64 (.var 0) (.lit 0)) (.lit 65535))) (.lit 1))])) .ok) .ok) .ok)
theorem rIdx : runCtr { (cxT0j Try.prog) with hints := hsIdx } 40 cIdxT [] [] = tIdx := by kernel_rfl

def hsNext : List (Nat × Nat × List Nat) := []
def tNext : Tree := (.br (.cmp .lss (.var 1) (.lit 0))
 (.ret [.ex (.lit (-1))])
 (.br (.cmp .geq (.var 1) (.lit 4))
 (.ret [.ex (.lit (-1))])
 (.br (.cmp .eql (.var 0) (.lit (-1)))
 (.br (.cmp .lss (.bin .add .i64 (.lit 4) (.var 1)) (.lit 4))
 (.ret [.ex (.lit (-1))])
 (.br (.cmp .geq (.bin .add .i64 (.lit 4) (.var 1)) (.lit 6))
 (.ret [.ex (.lit (-1))])
 (.br (.cmp .lss (.bin .sub .i64 (.bin .add .i64 (.lit 4) (.var 1)) (.lit 4)) (.lit 0))
 (.ret [.ex (.lit (-1))])
 (.br (.cmp .geq (.bin .sub .i64 (.bin .add .i64 (.lit 4) (.var 1)) (.lit 4)) (.lit 2))
 (.ret [.ex (.lit (-1))])
 (.and (.ret [.ex (.bin .add .i64 (.lit 14) (.bin .sub .i64 (.bin .add .i64 (.lit 4) (.var 1)) (.lit 4)))]) .ok)))))
 (.br (.cmp .lss (.var 0) (.lit 0))
 (.ret [.ex (.lit (-1))])
 (.br (.cmp .geq (.var 0) (.lit 3))
 (.ret [.ex (.lit (-1))])
 (.br (.cmp .lss (.bin .add .i64 (.lit 4) (.var 1)) (.lit 0))
 (.ret [.ex (.lit (-1))])
 (.br (.cmp .geq (.bin .add .i64 (.lit 4) (.var 1)) (.lit 6))
 (.ret [.ex (.lit (-1))])
 (.and (.ret [.ex (.bin .add .i64 (.bin .add .i64 (.lit 16) (.bin .mul .i64 (.var 0) (.lit 6))) (.bin .add .i64 (.lit 4) (.var 1)))]) .ok))))))))
theorem rNext : runCtr { (cxT0j Try.prog) with hints := hsNext } 40 cNextT [] [] = tNext := by kernel_rfl

def hsMarked : List (Nat × Nat × List Nat) := []
def tMarked : Tree := (.ret [.bx (.cmp .eql (.bin .shr .u64 (.var 0) (.lit 63)) (.lit 1))])
theorem rMarked : runCtr { (cxT0j Try.prog) with hints := hsMarked } 40 cMarkedT [] [] = tMarked := by kernel_rfl

def hsAmong : List (Nat × Nat × List Nat) := []
def tAmongL0 : Tree := (.need (.cmp .leq (.lit 0) (.var 1)) (.br (.cmp .lss (.var 4) (.var 1))
 (.need (.cmp .leq (.lit 0) (.var 4)) (.need (.cmp .lss (.var 4) (.var 1)) (.need (.cmp .lss (.var 4) (.len 0)) (.need (.cmp .leq (.lit 0) (.var 4)) (.need (.cmp .lss (.var 4) (.len 0)) (.br (.cmp .eql (.nth 0 (.var 4)) (.var 3))
 (.ret [.bx (.lit true)])
 (.back 0 4 [.ex (.bin .add .i64 (.var 4) (.lit 1))])))))))
 (.ret [.bx (.lit false)])))
def tAmong : Tree := (.loop 0 4 [.ex (.lit 0)] tAmongL0)
theorem rAmong : runCtr { (cxTa Try.prog) with hints := hsAmong } 40 cAmongT [] [] = tAmong := by kernel_rfl

def hsLevel : List (Nat × Nat × List Nat) := []
def tLevel : Tree := (.call 3 [.ex (.lit (-1)), .ex (.var 1)] (.br (.cmp .lss (.var 2) (.lit 0))
 (.ext (.lst []) (.ret [.var 0, .var 3, .ex (.lit 0), .ex (.lit 0)]))
 (.and (.call 0 [.var 0] (.and (.rng (.and (.call 3 [.ex (.lit (-1)), .ex (.var 1)] (.and (.call 1 [.var 4, .ex (.var 5), .ex (.var 5), .ex (.var 7)] (.and (.call 2 [.ex (.var 8)] (.br (.cmp .geq (.var 9) (.lit 0))
 (.app none (.lit 0) (.var 9) (.and (.call 3 [.ex (.var 9), .ex (.var 1)] (.and (.call 1 [.var 4, .ex (.var 5), .ex (.var 5), .ex (.var 12)] (.and (.call 2 [.ex (.var 13)] (.br (.cmp .geq (.var 14) (.lit 0))
 (.need (.cmp .leq (.lit 1) (.var 11)) (.need (.cmp .leq (.var 11) (.len 10)) (.need (.cmp .leq (.len 10) (.var 11)) (.app (some 10) (.lit 1) (.var 14) (.and (.call 3 [.ex (.var 14), .ex (.var 1)] (.and (.call 1 [.var 4, .ex (.var 5), .ex (.var 5), .ex (.var 17)] (.and (.call 2 [.ex (.var 18)] (.br (.cmp .geq (.var 19) (.lit 0))
 (.need (.cmp .leq (.lit 2) (.var 16)) (.need (.cmp .leq (.var 16) (.len 15)) (.need (.cmp .leq (.len 15) (.var 16)) (.app (some 15) (.lit 2) (.var 19) (.and (.call 3 [.ex (.var 19), .ex (.var 1)] (.and (.call 1 [.var 4, .ex (.var 5), .ex (.var 5), .ex (.var 22)] (.and (.call 2 [.ex (.var 23)] (.br (.cmp .geq (.var 24) (.lit 0))
 (.ret [.var 3, .var 20, .ex (.lit 3), .ex (.var 21)])
 (.ret [.var 3, .var 20, .ex (.lit 3), .ex (.var 21)]))) .ok)) .ok)) .ok)))))
 (.ret [.var 3, .var 15, .ex (.lit 2), .ex (.var 16)]))) .ok)) .ok)) .ok)))))
 (.ret [.var 3, .var 10, .ex (.lit 1), .ex (.var 11)]))) .ok)) .ok)) .ok))
 (.ext (.lst []) (.ret [.var 3, .var 10, .ex (.lit 0), .ex (.lit 0)])))) .ok)) .ok)) .ok)) .ok)) .ok)))
theorem rLevel : runCtr { (cxTo Try.prog) with hints := hsLevel } 40 cLevelT [] [] = tLevel := by kernel_rfl

def hsLive : List (Nat × Nat × List Nat) := []
def tLive : Tree := (.call 0 [.var 0] (.rng (.and (.call 3 [.ex (.lit (-1)), .ex (.lit 0)] (.and (.call 1 [.var 2, .ex (.var 3), .ex (.var 3), .ex (.var 5)] (.and (.call 2 [.ex (.var 6)] (.br (.cmp .geq (.var 7) (.lit 0))
 (.and (.call 3 [.ex (.var 7), .ex (.lit 0)] (.and (.call 1 [.var 2, .ex (.var 3), .ex (.var 3), .ex (.var 8)] (.and (.call 4 [.ex (.var 9)] (.br (.var 10)
 (.and (.call 3 [.ex (.var 7), .ex (.lit 0)] (.and (.call 1 [.var 2, .ex (.var 3), .ex (.var 3), .ex (.var 11)] (.and (.call 2 [.ex (.var 12)] (.br (.cmp .geq (.var 13) (.lit 0))
 (.and (.call 3 [.ex (.var 13), .ex (.lit 0)] (.and (.call 1 [.var 2, .ex (.var 3), .ex (.var 3), .ex (.var 14)] (.and (.call 4 [.ex (.var 15)] (.br (.var 16)
 (.and (.call 3 [.ex (.var 13), .ex (.lit 0)] (.and (.call 1 [.var 2, .ex (.var 3), .ex (.var 3), .ex (.var 17)] (.and (.call 2 [.ex (.var 18)] (.br (.cmp .geq (.var 19) (.lit 0))
 (.and (.call 3 [.ex (.var 19), .ex (.lit 0)] (.and (.call 1 [.var 2, .ex (.var 3), .ex (.var 3), .ex (.var 20)] (.and (.call 4 [.ex (.var 21)] (.br (.var 22)
 (.and (.call 3 [.ex (.var 19), .ex (.lit 0)] (.and (.call 1 [.var 2, .ex (.var 3), .ex (.var 3), .ex (.var 23)] (.and (.call 2 [.ex (.var 24)] (.br (.cmp .geq (.var 25) (.lit 0))
 (.ext (.lst []) (.ret [.var 1, .var 26, .ex (.lit 0), .ex (.lit 0)]))
 (.ext (.lst []) (.ret [.var 1, .var 26, .ex (.lit 0), .ex (.lit 0)])))) .ok)) .ok)) .ok)
 (.app none (.lit 0) (.var 19) (.and (.call 3 [.ex (.var 19), .ex (.lit 0)] (.and (.call 1 [.var 2, .ex (.var 3), .ex (.var 3), .ex (.var 25)] (.and (.call 2 [.ex (.var 26)] (.br (.cmp .geq (.var 27) (.lit 0))
 (.ret [.var 1, .var 23, .ex (.lit 1), .ex (.var 24)])
 (.ret [.var 1, .var 23, .ex (.lit 1), .ex (.var 24)]))) .ok)) .ok)) .ok)))) .ok)) .ok)) .ok)
 (.ext (.lst []) (.ret [.var 1, .var 20, .ex (.lit 0), .ex (.lit 0)])))) .ok)) .ok)) .ok)
 (.app none (.lit 0) (.var 13) (.and (.call 3 [.ex (.var 13), .ex (.lit 0)] (.and (.call 1 [.var 2, .ex (.var 3), .ex (.var 3), .ex (.var 19)] (.and (.call 2 [.ex (.var 20)] (.br (.cmp .geq (.var 21) (.lit 0))
 (.and (.call 3 [.ex (.var 21), .ex (.lit 0)] (.and (.call 1 [.var 2, .ex (.var 3), .ex (.var 3), .ex (.var 22)] (.and (.call 4 [.ex (.var 23)] (.br (.var 24)
 (.and (.call 3 [.ex (.var 21), .ex (.lit 0)] (.and (.call 1 [.var 2, .ex (.var 3), .ex (.var 3), .ex (.var 25)] (.and (.call 2 [.ex (.var 26)] (.br (.cmp .geq (.var 27) (.lit 0))
 (.ret [.var 1, .var 17, .ex (.lit 1), .ex (.var 18)])
 (.ret [.var 1, .var 17, .ex (.lit 1), .ex (.var 18)]))) .ok)) .ok)) .ok)
 (.need (.cmp .leq (.lit 1) (.var 18)) (.need (.cmp .leq (.var 18) (.len 17)) (.need (.cmp .leq (.len 17) (.var 18)) (.app (some 17) (.lit 1) (.var 21) (.and (.call 3 [.ex (.var 21), .ex (.lit 0)] (.and (.call 1 [.var 2, .ex (.var 3), .ex (.var 3), .ex (.var 27)] (.and (.call 2 [.ex (.var 28)] (.br (.cmp .geq (.var 29) (.lit 0))
 (.ret [.var 1, .var 25, .ex (.lit 2), .ex (.var 26)])
 (.ret [.var 1, .var 25, .ex (.lit 2), .ex (.var 26)]))) .ok)) .ok)) .ok))))))) .ok)) .ok)) .ok)
 (.ret [.var 1, .var 17, .ex (.lit 1), .ex (.var 18)]))) .ok)) .ok)) .ok)))) .ok)) .ok)) .ok)
 (.ext (.lst []) (.ret [.var 1, .var 14, .ex (.lit 0), .ex (.lit 0)])))) .ok)) .ok)) .ok)
 (.app none (.lit 0) (.var 7) (.and (.call 3 [.ex (.var 7), .ex (.lit 0)] (.and (.call 1 [.var 2, .ex (.var 3), .ex (.var 3), .ex (.var 13)] (.and (.call 2 [.ex (.var 14)] (.br (.cmp .geq (.var 15) (.lit 0))
 (.and (.call 3 [.ex (.var 15), .ex (.lit 0)] (.and (.call 1 [.var 2, .ex (.var 3), .ex (.var 3), .ex (.var 16)] (.and (.call 4 [.ex (.var 17)] (.br (.var 18)
 (.and (.call 3 [.ex (.var 15), .ex (.lit 0)] (.and (.call 1 [.var 2, .ex (.var 3), .ex (.var 3), .ex (.var 19)] (.and (.call 2 [.ex (.var 20)] (.br (.cmp .geq (.var 21) (.lit 0))
 (.and (.call 3 [.ex (.var 21), .ex (.lit 0)] (.and (.call 1 [.var 2, .ex (.var 3), .ex (.var 3), .ex (.var 22)] (.and (.call 4 [.ex (.var 23)] (.br (.var 24)
 (.and (.call 3 [.ex (.var 21), .ex (.lit 0)] (.and (.call 1 [.var 2, .ex (.var 3), .ex (.var 3), .ex (.var 25)] (.and (.call 2 [.ex (.var 26)] (.br (.cmp .geq (.var 27) (.lit 0))
 (.ret [.var 1, .var 11, .ex (.lit 1), .ex (.var 12)])
 (.ret [.var 1, .var 11, .ex (.lit 1), .ex (.var 12)]))) .ok)) .ok)) .ok)
 (.need (.cmp .leq (.lit 1) (.var 12)) (.need (.cmp .leq (.var 12) (.len 11)) (.need (.cmp .leq (.len 11) (.var 12)) (.app (some 11) (.lit 1) (.var 21) (.and (.call 3 [.ex (.var 21), .ex (.lit 0)] (.and (.call 1 [.var 2, .ex (.var 3), .ex (.var 3), .ex (.var 27)] (.and (.call 2 [.ex (.var 28)] (.br (.cmp .geq (.var 29) (.lit 0))
 (.ret [.var 1, .var 25, .ex (.lit 2), .ex (.var 26)])
 (.ret [.var 1, .var 25, .ex (.lit 2), .ex (.var 26)]))) .ok)) .ok)) .ok))))))) .ok)) .ok)) .ok)
 (.ret [.var 1, .var 11, .ex (.lit 1), .ex (.var 12)]))) .ok)) .ok)) .ok)
 (.need (.cmp .leq (.lit 1) (.var 12)) (.need (.cmp .leq (.var 12) (.len 11)) (.need (.cmp .leq (.len 11) (.var 12)) (.app (some 11) (.lit 1) (.var 15) (.and (.call 3 [.ex (.var 15), .ex (.lit 0)] (.and (.call 1 [.var 2, .ex (.var 3), .ex (.var 3), .ex (.var 21)] (.and (.call 2 [.ex (.var 22)] (.br (.cmp .geq (.var 23) (.lit 0))
 (.and (.call 3 [.ex (.var 23), .ex (.lit 0)] (.and (.call 1 [.var 2, .ex (.var 3), .ex (.var 3), .ex (.var 24)] (.and (.call 4 [.ex (.var 25)] (.br (.var 26)
 (.and (.call 3 [.ex (.var 23), .ex (.lit 0)] (.and (.call 1 [.var 2, .ex (.var 3), .ex (.var 3), .ex (.var 27)] (.and (.call 2 [.ex (.var 28)] (.br (.cmp .geq (.var 29) (.lit 0))
 (.ret [.var 1, .var 19, .ex (.lit 2), .ex (.var 20)])
 (.ret [.var 1, .var 19, .ex (.lit 2), .ex (.var 20)]))) .ok)) .ok)) .ok)
 (.need (.cmp .leq (.lit 2) (.var 20)) (.need (.cmp .leq (.var 20) (.len 19)) (.need (.cmp .leq (.len 19) (.var 20)) (.app (some 19) (.lit 2) (.var 23) (.and (.call 3 [.ex (.var 23), .ex (.lit 0)] (.and (.call 1 [.var 2, .ex (.var 3), .ex (.var 3), .ex (.var 29)] (.and (.call 2 [.ex (.var 30)] (.br (.cmp .geq (.var 31) (.lit 0))
 (.ret [.var 1, .var 27, .ex (.lit 3), .ex (.var 28)])
 (.ret [.var 1, .var 27, .ex (.lit 3), .ex (.var 28)]))) .ok)) .ok)) .ok))))))) .ok)) .ok)) .ok)
 (.ret [.var 1, .var 19, .ex (.lit 2), .ex (.var 20)]))) .ok)) .ok)) .ok))))))) .ok)) .ok)) .ok)
 (.ret [.var 1, .var 11, .ex (.lit 1), .ex (.var 12)]))) .ok)) .ok)) .ok)))) .ok)) .ok)) .ok)
 (.ext (.lst []) (.ret [.var 1, .var 8, .ex (.lit 0), .ex (.lit 0)])))) .ok)) .ok)) .ok)))
theorem rLive : runCtr { (cxTo Try.prog) with hints := hsLive } 40 cLiveT [] [] = tLive := by kernel_rfl

end Go.Proofs.Ytbmbiiiacajolaa
