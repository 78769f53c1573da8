/- The ways of the runs, as a program of ours printed them. -/
import Derived.Test.YtbmbiiiacajolaaGreatPe
import Derived.KernelRfl
namespace Go.Proofs.YtbmbiiiacajolaaGreat
set_option linter.unusedVariables false
set_option linter.unusedSimpArgs false
set_option linter.unusedSectionVars false
open Go
set_option maxRecDepth 100000

def hsLFits : List (Nat × Nat × List Nat) := []
def tLFitsL0 : Tree := (.br (.cmp .lss (.var 18) (.var 15))
 (.need (.cmp .leq (.lit 0) (.var 18)) (.need (.cmp .lss (.var 18) (.var 15)) (.need (.cmp .lss (.var 18) (.len 14)) (.need (.cmp .leq (.lit 0) (.var 18)) (.need (.cmp .lss (.var 18) (.len 14)) (.br (.mem 17 (.nth 14 (.var 18)))
 (.ret [.ex (.lit 2)])
 (.need (.not (.mem 17 (.nth 14 (.var 18)))) (.ext (.push 17 (.nth 14 (.var 18))) (.back 0 17 [.var 19, .ex (.bin .add .i64 (.var 18) (.lit 1))])))))))))
 (.ret [.ex (.lit 0)]))
def tLFits : Tree := (.br (.cmp .lss (.var 10) (.lit 1))
 (.ret [.ex (.lit 3)])
 (.br (.cmp .gtr (.var 10) (.lit 4096))
 (.ret [.ex (.lit 3)])
 (.call 2 [.ex (.var 0), .ex (.var 1), .ex (.var 2), .ex (.var 3), .ex (.var 4), .ex (.var 5), .ex (.var 10)] (.br (.cmp .eql (.var 11) (.lit 0))
 (.call 1 [.ex (.var 6), .ex (.var 7), .ex (.var 8), .ex (.var 10)] (.br (.cmp .eql (.var 12) (.lit 0))
 (.br (.cmp .lss (.var 9) (.lit 0))
 (.ret [.ex (.lit 2)])
 (.br (.cmp .gtr (.var 9) (.bin .sub .i64 (.var 10) (.lit 3)))
 (.ret [.ex (.lit 2)])
 (.ext (.lst []) (.callm 3 [.ex (.var 0), .ex (.var 1), .ex (.var 2), .ex (.var 3), .ex (.var 4), .ex (.var 5), .ex (.var 6), .ex (.var 7), .ex (.var 8), .ex (.var 9)] (.need (.cmp .leq (.lit 0) (.var 15)) (.loop 0 17 [.var 13, .ex (.lit 0)] tLFitsL0))))))
 (.ret [.ex (.lit 2)])))
 (.ret [.ex (.lit 2)])))))
theorem rLFits : runCtr { (cxPe0 Tryz.prog) with hints := hsLFits } 20 cLFits [] [] = tLFits := by kernel_rfl

def hsTFits : List (Nat × Nat × List Nat) := []
def tTFitsL0 : Tree := (.br (.cmp .lss (.var 28) (.var 25))
 (.need (.cmp .leq (.lit 0) (.var 28)) (.need (.cmp .lss (.var 28) (.var 25)) (.need (.cmp .lss (.var 28) (.len 24)) (.need (.cmp .leq (.lit 0) (.var 28)) (.need (.cmp .lss (.var 28) (.len 24)) (.br (.cmp .geq (.nth 24 (.var 28)) (.var 13))
 (.ret [.ex (.lit 2)])
 (.need (.cmp .leq (.lit 0) (.nth 24 (.var 28))) (.need (.cmp .lss (.nth 24 (.var 28)) (.var 13)) (.need (.cmp .lss (.nth 24 (.var 28)) (.len 29)) (.need (.cmp .leq (.lit 0) (.nth 24 (.var 28))) (.need (.cmp .lss (.nth 24 (.var 28)) (.len 29)) (.br (.cmp .neq (.nth 29 (.nth 24 (.var 28))) (.lit 0))
 (.ret [.ex (.lit 2)])
 (.need (.cmp .leq (.lit 0) (.nth 24 (.var 28))) (.need (.cmp .lss (.nth 24 (.var 28)) (.var 13)) (.need (.cmp .lss (.nth 24 (.var 28)) (.len 29)) (.need (.cmp .leq (.lit 0) (.nth 24 (.var 28))) (.need (.cmp .lss (.nth 24 (.var 28)) (.len 29)) (.ext (.setl 29 (.nth 24 (.var 28)) (.lit 1)) (.back 2 28 [.ex (.bin .add .i64 (.var 28) (.lit 1)), .var 30])))))))))))))))))))
 (.ret [.ex (.lit 0)]))
def tTFitsL1 : Tree := (.br (.cmp .lss (.var 23) (.var 2))
 (.need (.cmp .leq (.lit 0) (.var 25)) (.need (.cmp .leq (.var 25) (.var 26)) (.need (.cmp .leq (.var 26) (.len 24)) (.need (.cmp .leq (.len 24) (.var 26)) (.need (.cmp .leq (.var 25) (.lit 1000000)) (.app (some 24) (.var 25) (.bin .add .i64 (.var 1) (.var 23)) (.back 1 23 [.ex (.bin .add .i64 (.var 23) (.lit 1)), .var 27, .ex (.bin .add .i64 (.var 25) (.lit 1)), .ex (.var 28)])))))))
 (.need (.cmp .leq (.lit 0) (.var 13)) (.need (.cmp .leq (.var 13) (.lit 1000000)) (.ext (.repl (.var 13) (.lit 0)) (.need (.cmp .leq (.lit 0) (.var 25)) (.loop 2 28 [.ex (.lit 0), .var 27] tTFitsL0))))))
def tTFitsL2 : Tree := (.br (.cmp .lss (.var 19) (.bin .mul .i64 (.var 5) (.bin .add .i64 (.lit 4) (.var 2))))
 (.need (.cmp .leq (.lit 0) (.var 21)) (.need (.cmp .leq (.var 21) (.var 22)) (.need (.cmp .leq (.var 22) (.len 20)) (.need (.cmp .leq (.len 20) (.var 22)) (.need (.cmp .leq (.var 21) (.lit 1000000)) (.app (some 20) (.var 21) (.bin .add .i64 (.var 0) (.var 19)) (.back 0 19 [.ex (.bin .add .i64 (.var 19) (.lit 1)), .var 23, .ex (.bin .add .i64 (.var 21) (.lit 1)), .ex (.var 24)])))))))
 (.loop 1 23 [.ex (.lit 0), .var 20, .ex (.var 21), .ex (.var 22)] tTFitsL1))
def tTFits : Tree := (.br (.cmp .lss (.var 13) (.lit 1))
 (.ret [.ex (.lit 3)])
 (.br (.cmp .gtr (.var 13) (.lit 4096))
 (.ret [.ex (.lit 3)])
 (.call 5 [.ex (.var 0), .ex (.var 1), .ex (.var 2), .ex (.var 3), .ex (.var 4), .ex (.var 5), .ex (.var 6), .ex (.var 7), .ex (.var 8), .ex (.var 9), .ex (.var 10), .ex (.var 11), .ex (.var 12)] (.br (.var 14)
 (.call 6 [.ex (.var 3), .ex (.var 4), .ex (.var 5), .ex (.var 6), .ex (.var 7), .ex (.var 8), .ex (.var 9), .ex (.var 10), .ex (.var 11), .ex (.var 12), .ex (.var 13)] (.br (.cmp .eql (.var 15) (.lit 0))
 (.callm 4 [.ex (.var 3), .ex (.var 4), .ex (.var 5), .ex (.var 6), .ex (.var 7), .ex (.var 8), .ex (.var 9), .ex (.var 10), .ex (.var 11), .ex (.var 12)] (.and (.and (.and (.loop 0 19 [.ex (.lit 0), .var 16, .ex (.var 17), .ex (.var 18)] tTFitsL2) .ok) .ok) .ok))
 (.ret [.ex (.lit 2)])))
 (.ret [.ex (.lit 2)])))))
theorem rTFits : runCtr { (cxPe1 Tryz.prog) with hints := hsTFits } 20 cTFits [] [] = tTFits := by kernel_rfl

end Go.Proofs.YtbmbiiiacajolaaGreat
