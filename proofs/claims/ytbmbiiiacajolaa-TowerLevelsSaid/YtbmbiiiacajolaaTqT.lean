/- The ways of the runs, as a program of ours printed them. -/
import Derived.Test.YtbmbiiiacajolaaTq
import Derived.KernelRfl
namespace Go.Proofs.Ytbmbiiiacajolaa
set_option linter.unusedVariables false
set_option linter.unusedSimpArgs false
set_option linter.unusedSectionVars false
open Go
set_option maxRecDepth 100000

def hsSameInts : List (Nat × Nat × List Nat) := []
def tSameIntsL0 : Tree := (.br (.var 7)
 (.need (.cmp .leq (.lit 0) (.var 2)) (.br (.cmp .lss (.var 6) (.var 2))
 (.need (.cmp .leq (.lit 0) (.var 6)) (.need (.cmp .lss (.var 6) (.var 2)) (.need (.cmp .lss (.var 6) (.len 0)) (.need (.cmp .leq (.lit 0) (.var 6)) (.need (.cmp .lss (.var 6) (.len 0)) (.need (.cmp .leq (.lit 0) (.var 6)) (.need (.cmp .lss (.var 6) (.var 4)) (.need (.cmp .lss (.var 6) (.len 1)) (.need (.cmp .leq (.lit 0) (.var 6)) (.need (.cmp .lss (.var 6) (.len 1)) (.back 0 6 [.ex (.bin .add .i64 (.var 6) (.lit 1)), .bx (.cmp .eql (.nth 0 (.var 6)) (.nth 1 (.var 6)))])))))))))))
 (.ret [.bx (.var 7)])))
 (.ret [.bx (.var 7)]))
def tSameInts : Tree := (.need (.cmp .leq (.lit 0) (.var 2)) (.need (.cmp .leq (.lit 0) (.var 4)) (.loop 0 6 [.ex (.lit 0), .bx (.cmp .eql (.var 2) (.var 4))] tSameIntsL0)))
theorem rSameInts : runCtr { (cxTi Try.prog) with hints := hsSameInts } 20 cSameInts [] [] = tSameInts := by kernel_rfl

end Go.Proofs.Ytbmbiiiacajolaa
