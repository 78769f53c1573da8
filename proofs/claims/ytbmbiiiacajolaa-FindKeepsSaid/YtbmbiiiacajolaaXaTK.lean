/- Texts of this proof. -/
import Derived.Test.YtbmbiiiacajolaaB3K
import Derived.KernelRfl
namespace Go.Proofs.Ytbmbiiiacajolaa
set_option linter.unusedVariables false
set_option linter.unusedSimpArgs false
set_option linter.unusedSectionVars false
open Go
set_option maxRecDepth 100000
def hsPutTop : List (Nat × Nat × List Nat) := []
def tPutTop : Tree := (.br (.cmp .lss (.var 0) (.lit (-1)))
 (.ret [.ex (.lit 0), .ex (.lit 3)])
 (.br (.cmp .gtr (.var 0) (.lit 65534))
 (.ret [.ex (.lit 0), .ex (.lit 3)])
 (.br (.cmp .lss (.var 1) (.lit 0))
 (.ret [.ex (.lit 0), .ex (.lit 3)])
 (.br (.cmp .gtr (.var 1) (.lit 281474976710655))
 (.ret [.ex (.lit 0), .ex (.lit 3)])
 (.and (.and (.and (.and (.ret [.ex (.bin .or .u64 (.bin .or .u64 (.lit 0) (.bin .shl .u64 (.conv .u64 (.bin .add .i64 (.var 0) (.lit 1))) (.lit 0))) (.bin .shl .u64 (.conv .u64 (.var 1)) (.lit 16))), .ex (.lit 0)]) .ok) .ok) .ok) .ok)))))
theorem rPutTop : runCtr { (cx Try.prog []) with hints := hsPutTop } 20 cPutTop [] [] = tPutTop := by kernel_rfl
def hsSFill : List (Nat × Nat × List Nat) := []
def tSFillL0 : Tree := (.br (.cmp .lss (.var 8) (.var 3))
 (.br (.cmp .eql (.bin .add .i64 (.var 8) (.lit 1)) (.var 3))
 (.and (.call 1 [.ex (.lit (-1)), .ex (.lit 0)] (.and (.call 0 [.var 7, .ex (.bin .add .i64 (.var 2) (.var 8)), .ex (.var 9)] (.back 0 7 [.var 11, .ex (.bin .add .i64 (.var 8) (.lit 1))])) .ok)) .ok)
 (.and (.call 1 [.ex (.bin .add .i64 (.var 8) (.lit 1)), .ex (.lit 0)] (.and (.call 0 [.var 7, .ex (.bin .add .i64 (.var 2) (.var 8)), .ex (.var 9)] (.back 0 7 [.var 11, .ex (.bin .add .i64 (.var 8) (.lit 1))])) .ok)) .ok))
 (.ret [.var 7]))
def tSFill : Tree := (.br (.cmp .geq (.var 3) (.lit 1))
 (.br (.cmp .leq (.var 3) (.lit 4096))
 (.and (.call 1 [.ex (.lit 0), .ex (.lit 0)] (.and (.call 0 [.var 0, .ex (.var 1), .ex (.var 4)] (.loop 0 7 [.var 6, .ex (.lit 0)] tSFillL0)) .ok)) .ok)
 (.ret [.var 0]))
 (.ret [.var 0]))
theorem rSFill : runCtr { (cxXS Try.prog) with hints := hsSFill } 20 cSFill [] [] = tSFill := by kernel_rfl
def hsAFill : List (Nat × Nat × List Nat) := []
def tAFillL0 : Tree := (.br (.cmp .lss (.var 10) (.var 3))
 (.call 0 [.var 9, .ex (.bin .add .i64 (.var 4) (.var 10)), .ex (.lit 1)] (.back 0 9 [.var 11, .ex (.bin .add .i64 (.var 10) (.lit 1))]))
 (.ret [.var 9]))
def tAFill : Tree := (.br (.cmp .geq (.var 3) (.lit 1))
 (.br (.cmp .leq (.var 3) (.lit 4096))
 (.call 1 [.var 0, .ex (.var 1), .ex (.var 2), .ex (.var 3)] (.call 0 [.var 7, .ex (.var 5), .ex (.lit 0)] (.loop 0 9 [.var 8, .ex (.lit 0)] tAFillL0)))
 (.ret [.var 0]))
 (.ret [.var 0]))
theorem rAFill : runCtr { (cxXA Try.prog) with hints := hsAFill } 20 cAFill [] [] = tAFill := by kernel_rfl
def hsEFill : List (Nat × Nat × List Nat) := []
def tEFillL0 : Tree := (.br (.cmp .lss (.var 7) (.var 3))
 (.call 0 [.var 6, .ex (.bin .add .i64 (.var 2) (.var 7)), .ex (.lit 0)] (.back 0 6 [.var 8, .ex (.bin .add .i64 (.var 7) (.lit 1))]))
 (.ret [.var 6]))
def tEFill : Tree := (.br (.cmp .geq (.var 3) (.lit 1))
 (.br (.cmp .leq (.var 3) (.lit 64))
 (.call 0 [.var 0, .ex (.var 1), .ex (.lit 0)] (.rng (.loop 0 6 [.var 4, .ex (.lit 0)] tEFillL0)))
 (.ret [.var 0]))
 (.ret [.var 0]))
theorem rEFill : runCtr { (cxXE Try.prog) with hints := hsEFill } 20 cEFill [] [] = tEFill := by kernel_rfl
def hsLFill : List (Nat × Nat × List Nat) := []
def tLFill : Tree := (.call 1 [.var 0, .ex (.var 1), .ex (.var 2), .ex (.var 3), .ex (.var 4), .ex (.var 5), .ex (.var 6)] (.call 2 [.var 11, .ex (.var 7), .ex (.var 8), .ex (.var 9)] (.call 0 [.var 12, .ex (.bin .add .i64 (.var 10) (.lit 0)), .ex (.lit 0)] (.call 0 [.var 13, .ex (.bin .add .i64 (.var 10) (.lit 1)), .ex (.lit 0)] (.call 0 [.var 14, .ex (.bin .add .i64 (.var 10) (.lit 2)), .ex (.lit 0)] (.ret [.var 15]))))))
theorem rLFill : runCtr { (cxXL Try.prog) with hints := hsLFill } 20 cLFill [] [] = tLFill := by kernel_rfl
def hsTFill : List (Nat × Nat × List Nat) := []
def tTFillL0 : Tree := (.br (.cmp .lss (.var 17) (.var 3))
 (.call 0 [.var 16, .ex (.bin .add .i64 (.var 2) (.var 17)), .ex (.lit 0)] (.back 0 16 [.var 18, .ex (.bin .add .i64 (.var 17) (.lit 1))]))
 (.ret [.var 16]))
def tTFill : Tree := (.call 1 [.ex (.var 1), .ex (.var 2), .ex (.var 3), .ex (.var 4), .ex (.var 5), .ex (.var 6), .ex (.var 7), .ex (.var 8), .ex (.var 9), .ex (.var 10), .ex (.var 11), .ex (.var 12), .ex (.var 13)] (.br (.var 14)
 (.call 2 [.var 0, .ex (.var 4), .ex (.var 5), .ex (.var 6), .ex (.var 7), .ex (.var 8), .ex (.var 9), .ex (.var 10), .ex (.var 11), .ex (.var 12), .ex (.var 13)] (.loop 0 16 [.var 15, .ex (.lit 0)] tTFillL0))
 (.ret [.var 0])))
theorem rTFill : runCtr { (cxXT Try.prog) with hints := hsTFill } 20 cTFill [] [] = tTFill := by kernel_rfl
end Go.Proofs.Ytbmbiiiacajolaa
