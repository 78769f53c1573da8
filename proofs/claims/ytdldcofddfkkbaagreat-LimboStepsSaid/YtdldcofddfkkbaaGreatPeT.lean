/- The ways of the runs, as a program of ours printed them. -/
import Derived.Test.YtdldcofddfkkbaaGreatPe
import Derived.KernelRfl
namespace Go.Proofs.YtdldcofddfkkbaaGreat
set_option linter.unusedVariables false
set_option linter.unusedSimpArgs false
set_option linter.unusedSectionVars false
open Go
set_option maxRecDepth 100000

def hsLFits : List (Nat × Nat × List Nat) := []
def tLFitsL0 : Tree := (.br (.cmp .lss (.var 18) (.var 15))
 (.need (.cmp .leq (.lit 0) (.var 18)) (.need (.cmp .lss (.var 18) (.var 15)) (.need (.cmp .lss (.var 18) (.len 14)) (.need (.cmp .leq (.lit 0) (.var 18)) (.need (.cmp .lss (.var 18) (.len 14)) (.br (.mem 17 (.nth 14 (.var 18)))
 (.ret [.ex (.lit 2)])
 (.need (.not (.mem 17 (.nth 14 (.var 18)))) (.ext (.push 17 (.nth 14 (.var 18))) (.back 0 17 [.var 19, .ex (.bin .add .i64 (.var 18) (.lit 1))])))))))))
 (.ret [.ex (.lit 0)]))
def tLFits : Tree := (.br (.cmp .lss (.var 10) (.lit 1))
 (.ret [.ex (.lit 3)])
 (.br (.cmp .gtr (.var 10) (.lit 4096))
 (.ret [.ex (.lit 3)])
 (.call 2 [.ex (.var 0), .ex (.var 1), .ex (.var 2), .ex (.var 3), .ex (.var 4), .ex (.var 5), .ex (.var 10)] (.br (.cmp .eql (.var 11) (.lit 0))
 (.call 1 [.ex (.var 6), .ex (.var 7), .ex (.var 8), .ex (.var 10)] (.br (.cmp .eql (.var 12) (.lit 0))
 (.br (.cmp .lss (.var 9) (.lit 0))
 (.ret [.ex (.lit 2)])
 (.br (.cmp .gtr (.var 9) (.bin .sub .i64 (.var 10) (.lit 3)))
 (.ret [.ex (.lit 2)])
 (.ext (.lst []) (.callm 3 [.ex (.var 0), .ex (.var 1), .ex (.var 2), .ex (.var 3), .ex (.var 4), .ex (.var 5), .ex (.var 6), .ex (.var 7), .ex (.var 8), .ex (.var 9)] (.need (.cmp .leq (.lit 0) (.var 15)) (.loop 0 17 [.var 13, .ex (.lit 0)] tLFitsL0))))))
 (.ret [.ex (.lit 2)])))
 (.ret [.ex (.lit 2)])))))
theorem rLFits : runCtr { (cxPe0 Tryz.prog) with hints := hsLFits } 20 cLFits [] [] = tLFits := by kernel_rfl


end Go.Proofs.YtdldcofddfkkbaaGreat
