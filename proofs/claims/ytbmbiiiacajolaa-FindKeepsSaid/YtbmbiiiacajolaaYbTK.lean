/- Texts of this proof. -/
import Derived.Test.YtbmbiiiacajolaaYbK
import Derived.KernelRfl
namespace Go.Proofs.Ytbmbiiiacajolaa
set_option linter.unusedVariables false
set_option linter.unusedSimpArgs false
set_option linter.unusedSectionVars false
open Go
set_option maxRecDepth 100000
def hsIdxP : List (Nat × Nat × List Nat) := []
def tIdxP : Tree := (.and (.and (.and (.br (.cmp .geq (.bin .sub .i64 (.conv .i64 (.bin .and .u64 (.bin .shr .u64 (.var 13) (.lit 0)) (.lit 65535))) (.lit 1)) (.var 5))
 (.ret [.ex (.lit (-1))])
 (.ret [.ex (.bin .sub .i64 (.conv .i64 (.bin .and .u64 (.bin .shr .u64 (.var 13) (.lit 0)) (.lit 65535))) (.lit 1))])) .ok) .ok) .ok)
theorem rIdxP : runCtr { (cxQi Try.prog) with hints := hsIdxP } 20 cIdxP [] [] = tIdxP := by kernel_rfl
def hsMemAt : List (Nat × Nat × List Nat) := []
def tMemAt : Tree := (.br (.cmp .lss (.var 3) (.lit 0))
 (.ret [.ex (.lit 0)])
 (.need (.cmp .leq (.lit 0) (.var 1)) (.br (.cmp .geq (.var 3) (.var 1))
 (.ret [.ex (.lit 0)])
 (.need (.cmp .leq (.lit 0) (.var 3)) (.need (.cmp .lss (.var 3) (.var 1)) (.need (.cmp .lss (.var 3) (.len 0)) (.need (.cmp .leq (.lit 0) (.var 3)) (.need (.cmp .lss (.var 3) (.len 0)) (.ret [.ex (.nth 0 (.var 3))])))))))))
theorem rMemAt : runCtr { (cx Try.prog []) with hints := hsMemAt } 20 cMemAt [] [] = tMemAt := by kernel_rfl
def hsLive : List (Nat × Nat × List Nat) := []
def tLiveL0 : Tree := (.br (.cmp .geq (.var 22) (.lit 0))
 (.br (.cmp .lss (.var 23) (.var 6))
 (.and (.call 2 [.ex (.var 1), .ex (.var 2), .ex (.var 3), .ex (.var 4), .ex (.var 5), .ex (.var 6), .ex (.var 7), .ex (.var 8), .ex (.var 9), .ex (.var 10), .ex (.var 11), .ex (.var 12), .ex (.var 13), .ex (.var 22), .ex (.lit 0)] (.and (.call 4 [.var 16, .ex (.var 17), .ex (.var 17), .ex (.var 27)] (.and (.br (.cmp .eql (.bin .shr .u64 (.var 28) (.lit 63)) (.lit 1))
 (.and (.call 2 [.ex (.var 1), .ex (.var 2), .ex (.var 3), .ex (.var 4), .ex (.var 5), .ex (.var 6), .ex (.var 7), .ex (.var 8), .ex (.var 9), .ex (.var 10), .ex (.var 11), .ex (.var 12), .ex (.var 13), .ex (.var 22), .ex (.lit 0)] (.and (.call 4 [.var 16, .ex (.var 17), .ex (.var 17), .ex (.var 29)] (.and (.call 1 [.ex (.var 1), .ex (.var 2), .ex (.var 3), .ex (.var 4), .ex (.var 5), .ex (.var 6), .ex (.var 7), .ex (.var 8), .ex (.var 9), .ex (.var 10), .ex (.var 11), .ex (.var 12), .ex (.var 13), .ex (.var 30)] (.back 0 22 [.ex (.var 31), .ex (.bin .add .i64 (.var 23) (.lit 1)), .ex (.var 24), .var 25, .ex (.var 26)])) .ok)) .ok)) .ok)
 (.need (.cmp .leq (.lit 0) (.var 24)) (.need (.cmp .leq (.var 24) (.var 26)) (.need (.cmp .leq (.var 26) (.len 25)) (.need (.cmp .leq (.len 25) (.var 26)) (.need (.cmp .leq (.var 24) (.lit 1000000)) (.app (some 25) (.var 24) (.var 22) (.and (.call 2 [.ex (.var 1), .ex (.var 2), .ex (.var 3), .ex (.var 4), .ex (.var 5), .ex (.var 6), .ex (.var 7), .ex (.var 8), .ex (.var 9), .ex (.var 10), .ex (.var 11), .ex (.var 12), .ex (.var 13), .ex (.var 22), .ex (.lit 0)] (.and (.call 4 [.var 16, .ex (.var 17), .ex (.var 17), .ex (.var 31)] (.and (.call 1 [.ex (.var 1), .ex (.var 2), .ex (.var 3), .ex (.var 4), .ex (.var 5), .ex (.var 6), .ex (.var 7), .ex (.var 8), .ex (.var 9), .ex (.var 10), .ex (.var 11), .ex (.var 12), .ex (.var 13), .ex (.var 32)] (.back 0 22 [.ex (.var 33), .ex (.bin .add .i64 (.var 23) (.lit 1)), .ex (.bin .add .i64 (.var 24) (.lit 1)), .var 29, .ex (.var 30)])) .ok)) .ok)) .ok)))))))) .ok)) .ok)) .ok)
 (.ret [.var 15, .var 25, .ex (.var 24), .ex (.var 26)]))
 (.ret [.var 15, .var 25, .ex (.var 24), .ex (.var 26)]))
def tLive : Tree := (.call 3 [.ex (.var 1), .ex (.var 2), .ex (.var 3), .ex (.var 4), .ex (.var 5), .ex (.var 6), .ex (.var 7), .ex (.var 8), .ex (.var 9), .ex (.var 10), .ex (.var 11), .ex (.var 12), .ex (.var 13)] (.br (.var 14)
 (.call 0 [.var 0] (.rng (.and (.call 2 [.ex (.var 1), .ex (.var 2), .ex (.var 3), .ex (.var 4), .ex (.var 5), .ex (.var 6), .ex (.var 7), .ex (.var 8), .ex (.var 9), .ex (.var 10), .ex (.var 11), .ex (.var 12), .ex (.var 13), .ex (.lit (-1)), .ex (.lit 0)] (.and (.call 4 [.var 16, .ex (.var 17), .ex (.var 17), .ex (.var 19)] (.and (.call 1 [.ex (.var 1), .ex (.var 2), .ex (.var 3), .ex (.var 4), .ex (.var 5), .ex (.var 6), .ex (.var 7), .ex (.var 8), .ex (.var 9), .ex (.var 10), .ex (.var 11), .ex (.var 12), .ex (.var 13), .ex (.var 20)] (.ext (.lst []) (.loop 0 22 [.ex (.var 21), .ex (.lit 0), .ex (.lit 0), .var 22, .ex (.lit 0)] tLiveL0))) .ok)) .ok)) .ok)))
 (.ext (.lst []) (.ret [.var 0, .var 15, .ex (.lit 0), .ex (.lit 0)]))))
theorem rLive : runCtr { (cxYb Try.prog [lLive]) with hints := hsLive } 20 cLive [] [] = tLive := by kernel_rfl
end Go.Proofs.Ytbmbiiiacajolaa
