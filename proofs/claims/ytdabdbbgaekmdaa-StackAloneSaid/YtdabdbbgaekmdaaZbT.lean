/- The ways of the runs, as a program of ours printed them. -/
import Derived.Test.YtdabdbbgaekmdaaZb
import Derived.KernelRfl
namespace Go.Proofs.Ytdabdbbgaekmdaa
set_option linter.unusedVariables false
set_option linter.unusedSimpArgs false
set_option linter.unusedSectionVars false
open Go
set_option maxRecDepth 100000

def hsAllS : List (Nat × Nat × List Nat) := []
def tAllSL0 : Tree := (.need (.cmp .leq (.lit 0) (.var 32)) (.br (.cmp .lss (.var 34) (.var 32))
 (.need (.cmp .leq (.lit 0) (.var 34)) (.need (.cmp .lss (.var 34) (.var 32)) (.need (.cmp .lss (.var 34) (.len 31)) (.need (.cmp .leq (.lit 0) (.var 34)) (.need (.cmp .lss (.var 34) (.len 31)) (.br (.cmp .lss (.nth 31 (.var 34)) (.lit 0))
 (.ret [.var 26, .bx (.lit false)])
 (.need (.cmp .leq (.lit 0) (.var 34)) (.need (.cmp .lss (.var 34) (.var 32)) (.need (.cmp .lss (.var 34) (.len 31)) (.need (.cmp .leq (.lit 0) (.var 34)) (.need (.cmp .lss (.var 34) (.len 31)) (.and (.br (.cmp .geq (.nth 31 (.var 34)) (.var 24))
 (.ret [.var 26, .bx (.lit false)])
 (.need (.cmp .leq (.lit 0) (.var 34)) (.need (.cmp .lss (.var 34) (.var 32)) (.need (.cmp .lss (.var 34) (.len 31)) (.need (.cmp .leq (.lit 0) (.var 34)) (.need (.cmp .lss (.var 34) (.len 31)) (.and (.need (.cmp .leq (.lit 0) (.nth 31 (.var 34))) (.need (.cmp .lss (.nth 31 (.var 34)) (.var 24)) (.need (.cmp .lss (.nth 31 (.var 34)) (.len 35)) (.and (.need (.cmp .leq (.lit 0) (.nth 31 (.var 34))) (.need (.cmp .lss (.nth 31 (.var 34)) (.len 35)) (.br (.cmp .neq (.nth 35 (.nth 31 (.var 34))) (.lit 0))
 (.ret [.var 26, .bx (.lit false)])
 (.need (.cmp .leq (.lit 0) (.var 34)) (.need (.cmp .lss (.var 34) (.var 32)) (.need (.cmp .lss (.var 34) (.len 31)) (.need (.cmp .leq (.lit 0) (.var 34)) (.need (.cmp .lss (.var 34) (.len 31)) (.need (.cmp .leq (.lit 0) (.nth 31 (.var 34))) (.need (.cmp .lss (.nth 31 (.var 34)) (.var 24)) (.need (.cmp .lss (.nth 31 (.var 34)) (.len 35)) (.need (.cmp .leq (.lit 0) (.nth 31 (.var 34))) (.need (.cmp .lss (.nth 31 (.var 34)) (.len 35)) (.ext (.setl 35 (.nth 31 (.var 34)) (.lit 1)) (.back 1 34 [.ex (.bin .add .i64 (.var 34) (.lit 1)), .var 36]))))))))))))))) .ok)))) .ok))))))) .ok))))))))))))
 (.need (.cmp .leq (.lit 0) (.var 32)) (.ret [.var 26, .bx (.cmp .eql (.var 32) (.var 24))]))))
def tAllSL1 : Tree := (.br (.cmp .lss (.var 30) (.lit 3))
 (.br (.cmp .eql (.var 30) (.lit 0))
 (.need (.cmp .leq (.lit 0) (.var 4)) (.need (.cmp .leq (.var 4) (.len 3)) (.need (.cmp .leq (.var 4) (.lit 1000000)) (.br (.cmp .eql (.var 4) (.lit 0))
 (.need (.cmp .leq (.lit 0) (.var 32)) (.need (.cmp .leq (.var 32) (.var 33)) (.br (.isnil 1)
 (.back 0 30 [.ex (.bin .add .i64 (.var 30) (.lit 1)), .var 31, .ex (.var 32), .ex (.var 33)])
 (.need (.cmp .leq (.lit 0) (.var 32)) (.need (.cmp .leq (.var 32) (.var 33)) (.need (.cmp .leq (.var 33) (.len 31)) (.need (.cmp .leq (.len 31) (.var 33)) (.need (.cmp .leq (.var 32) (.lit 1000000)) (.app (some 31) (.var 32) (.var 6) (.back 0 30 [.ex (.bin .add .i64 (.var 30) (.lit 1)), .var 34, .ex (.bin .add .i64 (.var 32) (.lit 1)), .ex (.var 35)]))))))))))
 (.need (.cmp .leq (.lit 0) (.var 32)) (.need (.cmp .leq (.var 32) (.var 33)) (.need (.cmp .leq (.var 33) (.len 31)) (.need (.cmp .leq (.len 31) (.var 33)) (.need (.cmp .leq (.var 32) (.lit 1000000)) (.appr (some 31) (.var 32) 3 (.var 4) (.br (.isnil 1)
 (.back 0 30 [.ex (.bin .add .i64 (.var 30) (.lit 1)), .var 34, .ex (.bin .add .i64 (.var 32) (.var 4)), .ex (.var 35)])
 (.need (.cmp .leq (.lit 0) (.bin .add .i64 (.var 32) (.var 4))) (.need (.cmp .leq (.bin .add .i64 (.var 32) (.var 4)) (.var 35)) (.need (.cmp .leq (.var 35) (.len 34)) (.need (.cmp .leq (.len 34) (.var 35)) (.need (.cmp .leq (.bin .add .i64 (.var 32) (.var 4)) (.lit 1000000)) (.app (some 34) (.bin .add .i64 (.var 32) (.var 4)) (.var 6) (.back 0 30 [.ex (.bin .add .i64 (.var 30) (.lit 1)), .var 36, .ex (.bin .add .i64 (.bin .add .i64 (.var 32) (.var 4)) (.lit 1)), .ex (.var 37)]))))))))))))))))))
 (.br (.cmp .eql (.var 30) (.lit 1))
 (.need (.cmp .leq (.lit 0) (.var 11)) (.need (.cmp .leq (.var 11) (.len 10)) (.need (.cmp .leq (.var 11) (.lit 1000000)) (.br (.cmp .eql (.var 11) (.lit 0))
 (.need (.cmp .leq (.lit 0) (.var 32)) (.need (.cmp .leq (.var 32) (.var 33)) (.br (.isnil 8)
 (.back 0 30 [.ex (.bin .add .i64 (.var 30) (.lit 1)), .var 31, .ex (.var 32), .ex (.var 33)])
 (.need (.cmp .leq (.lit 0) (.var 32)) (.need (.cmp .leq (.var 32) (.var 33)) (.need (.cmp .leq (.var 33) (.len 31)) (.need (.cmp .leq (.len 31) (.var 33)) (.need (.cmp .leq (.var 32) (.lit 1000000)) (.app (some 31) (.var 32) (.var 13) (.back 0 30 [.ex (.bin .add .i64 (.var 30) (.lit 1)), .var 34, .ex (.bin .add .i64 (.var 32) (.lit 1)), .ex (.var 35)]))))))))))
 (.need (.cmp .leq (.lit 0) (.var 32)) (.need (.cmp .leq (.var 32) (.var 33)) (.need (.cmp .leq (.var 33) (.len 31)) (.need (.cmp .leq (.len 31) (.var 33)) (.need (.cmp .leq (.var 32) (.lit 1000000)) (.appr (some 31) (.var 32) 10 (.var 11) (.br (.isnil 8)
 (.back 0 30 [.ex (.bin .add .i64 (.var 30) (.lit 1)), .var 34, .ex (.bin .add .i64 (.var 32) (.var 11)), .ex (.var 35)])
 (.need (.cmp .leq (.lit 0) (.bin .add .i64 (.var 32) (.var 11))) (.need (.cmp .leq (.bin .add .i64 (.var 32) (.var 11)) (.var 35)) (.need (.cmp .leq (.var 35) (.len 34)) (.need (.cmp .leq (.len 34) (.var 35)) (.need (.cmp .leq (.bin .add .i64 (.var 32) (.var 11)) (.lit 1000000)) (.app (some 34) (.bin .add .i64 (.var 32) (.var 11)) (.var 13) (.back 0 30 [.ex (.bin .add .i64 (.var 30) (.lit 1)), .var 36, .ex (.bin .add .i64 (.bin .add .i64 (.var 32) (.var 11)) (.lit 1)), .ex (.var 37)]))))))))))))))))))
 (.br (.cmp .eql (.var 30) (.lit 2))
 (.need (.cmp .leq (.lit 0) (.var 18)) (.need (.cmp .leq (.var 18) (.len 17)) (.need (.cmp .leq (.var 18) (.lit 1000000)) (.br (.cmp .eql (.var 18) (.lit 0))
 (.need (.cmp .leq (.lit 0) (.var 32)) (.need (.cmp .leq (.var 32) (.var 33)) (.br (.isnil 15)
 (.back 0 30 [.ex (.bin .add .i64 (.var 30) (.lit 1)), .var 31, .ex (.var 32), .ex (.var 33)])
 (.need (.cmp .leq (.lit 0) (.var 32)) (.need (.cmp .leq (.var 32) (.var 33)) (.need (.cmp .leq (.var 33) (.len 31)) (.need (.cmp .leq (.len 31) (.var 33)) (.need (.cmp .leq (.var 32) (.lit 1000000)) (.app (some 31) (.var 32) (.var 20) (.back 0 30 [.ex (.bin .add .i64 (.var 30) (.lit 1)), .var 34, .ex (.bin .add .i64 (.var 32) (.lit 1)), .ex (.var 35)]))))))))))
 (.need (.cmp .leq (.lit 0) (.var 32)) (.need (.cmp .leq (.var 32) (.var 33)) (.need (.cmp .leq (.var 33) (.len 31)) (.need (.cmp .leq (.len 31) (.var 33)) (.need (.cmp .leq (.var 32) (.lit 1000000)) (.appr (some 31) (.var 32) 17 (.var 18) (.br (.isnil 15)
 (.back 0 30 [.ex (.bin .add .i64 (.var 30) (.lit 1)), .var 34, .ex (.bin .add .i64 (.var 32) (.var 18)), .ex (.var 35)])
 (.need (.cmp .leq (.lit 0) (.bin .add .i64 (.var 32) (.var 18))) (.need (.cmp .leq (.bin .add .i64 (.var 32) (.var 18)) (.var 35)) (.need (.cmp .leq (.var 35) (.len 34)) (.need (.cmp .leq (.len 34) (.var 35)) (.need (.cmp .leq (.bin .add .i64 (.var 32) (.var 18)) (.lit 1000000)) (.app (some 34) (.bin .add .i64 (.var 32) (.var 18)) (.var 20) (.back 0 30 [.ex (.bin .add .i64 (.var 30) (.lit 1)), .var 36, .ex (.bin .add .i64 (.bin .add .i64 (.var 32) (.var 18)) (.lit 1)), .ex (.var 37)]))))))))))))))))))
 (.need (.lit false) .ok))))
 (.loop 1 34 [.ex (.lit 0), .var 25] tAllSL0))
def tAllS : Tree := (.need (.cmp .leq (.lit 0) (.var 24)) (.need (.cmp .leq (.var 24) (.lit 1000000)) (.ext (.repl (.var 24) (.lit 0)) (.callm 14 [.var 21, .ex (.var 22), .ex (.var 23), .ex (.var 24)] (.loop 0 30 [.ex (.lit 0), .var 27, .ex (.var 28), .ex (.var 29)] tAllSL1)))))
theorem rAllS : runCtr { (cxZb Try.prog) with hints := hsAllS } 20 cAllS [] [] = tAllS := by kernel_rfl

end Go.Proofs.Ytdabdbbgaekmdaa
