/- The ways of the runs, as a program of ours printed them. -/
import Derived.Test.YtbmbiiiacajolaaGreatKi
import Derived.KernelRfl
namespace Go.Proofs.YtbmbiiiacajolaaGreat
set_option linter.unusedVariables false
set_option linter.unusedSimpArgs false
set_option linter.unusedSectionVars false
open Go
set_option maxRecDepth 100000

def hsSameInts : List (Nat × Nat × List Nat) := []
def tSameIntsL0 : Tree := (.br (.var 7)
 (.need (.cmp .leq (.lit 0) (.var 2)) (.br (.cmp .lss (.var 6) (.var 2))
 (.need (.cmp .leq (.lit 0) (.var 6)) (.need (.cmp .lss (.var 6) (.var 2)) (.need (.cmp .lss (.var 6) (.len 0)) (.need (.cmp .leq (.lit 0) (.var 6)) (.need (.cmp .lss (.var 6) (.len 0)) (.need (.cmp .leq (.lit 0) (.var 6)) (.need (.cmp .lss (.var 6) (.var 4)) (.need (.cmp .lss (.var 6) (.len 1)) (.need (.cmp .leq (.lit 0) (.var 6)) (.need (.cmp .lss (.var 6) (.len 1)) (.back 0 6 [.ex (.bin .add .i64 (.var 6) (.lit 1)), .bx (.cmp .eql (.nth 0 (.var 6)) (.nth 1 (.var 6)))])))))))))))
 (.ret [.bx (.var 7)])))
 (.ret [.bx (.var 7)]))
def tSameInts : Tree := (.need (.cmp .leq (.lit 0) (.var 2)) (.need (.cmp .leq (.lit 0) (.var 4)) (.loop 0 6 [.ex (.lit 0), .bx (.cmp .eql (.var 2) (.var 4))] tSameIntsL0)))
theorem rSameInts : runCtr { (cxEO Tryz.prog [lSameInts]) with hints := hsSameInts } 20 cSameInts [] [] = tSameInts := by kernel_rfl

def hsOverInts : List (Nat × Nat × List Nat) := []
def tOverIntsL0 : Tree := (.need (.cmp .leq (.lit 0) (.var 1)) (.br (.cmp .lss (.var 4) (.var 1))
 (.need (.cmp .leq (.lit 0) (.var 4)) (.need (.cmp .lss (.var 4) (.var 1)) (.need (.cmp .lss (.var 4) (.len 3)) (.need (.cmp .leq (.lit 0) (.var 4)) (.need (.cmp .lss (.var 4) (.len 3)) (.ext (.setl 3 (.var 4) (.lit (-77))) (.back 0 3 [.var 5, .ex (.bin .add .i64 (.var 4) (.lit 1))])))))))
 (.ret [.var 3])))
def tOverInts : Tree := (.loop 0 3 [.var 0, .ex (.lit 0)] tOverIntsL0)
theorem rOverInts : runCtr { (cxEO Tryz.prog [lOverInts]) with hints := hsOverInts } 20 cOverInts [] [] = tOverInts := by kernel_rfl

end Go.Proofs.YtbmbiiiacajolaaGreat
