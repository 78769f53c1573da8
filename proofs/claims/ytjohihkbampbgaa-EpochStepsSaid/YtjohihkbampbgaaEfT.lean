/- The ways of the runs, as a program of ours printed them. -/
import Derived.Test.YtjohihkbampbgaaEf
import Derived.KernelRfl
namespace Go.Proofs.Ytjohihkbampbgaa
set_option linter.unusedVariables false
set_option linter.unusedSimpArgs false
set_option linter.unusedSectionVars false
open Go
set_option maxRecDepth 100000

def hsSameInts : List (Nat × Nat × List Nat) := []
def tSameIntsL0 : Tree := (.br (.var 7)
 (.need (.cmp .leq (.lit 0) (.var 2)) (.br (.cmp .lss (.var 6) (.var 2))
 (.need (.cmp .leq (.lit 0) (.var 6)) (.need (.cmp .lss (.var 6) (.var 2)) (.need (.cmp .lss (.var 6) (.len 0)) (.need (.cmp .leq (.lit 0) (.var 6)) (.need (.cmp .lss (.var 6) (.len 0)) (.need (.cmp .leq (.lit 0) (.var 6)) (.need (.cmp .lss (.var 6) (.var 4)) (.need (.cmp .lss (.var 6) (.len 1)) (.need (.cmp .leq (.lit 0) (.var 6)) (.need (.cmp .lss (.var 6) (.len 1)) (.back 0 6 [.ex (.bin .add .i64 (.var 6) (.lit 1)), .bx (.cmp .eql (.nth 0 (.var 6)) (.nth 1 (.var 6)))])))))))))))
 (.ret [.bx (.var 7)])))
 (.ret [.bx (.var 7)]))
def tSameInts : Tree := (.need (.cmp .leq (.lit 0) (.var 2)) (.need (.cmp .leq (.lit 0) (.var 4)) (.loop 0 6 [.ex (.lit 0), .bx (.cmp .eql (.var 2) (.var 4))] tSameIntsL0)))
theorem rSameInts : runCtr { (cxEO Try.prog [lSameInts]) with hints := hsSameInts } 20 cSameInts [] [] = tSameInts := by kernel_rfl

def hsOverInts : List (Nat × Nat × List Nat) := []
def tOverIntsL0 : Tree := (.need (.cmp .leq (.lit 0) (.var 1)) (.br (.cmp .lss (.var 4) (.var 1))
 (.need (.cmp .leq (.lit 0) (.var 4)) (.need (.cmp .lss (.var 4) (.var 1)) (.need (.cmp .lss (.var 4) (.len 3)) (.need (.cmp .leq (.lit 0) (.var 4)) (.need (.cmp .lss (.var 4) (.len 3)) (.ext (.setl 3 (.var 4) (.lit (-77))) (.back 0 3 [.var 5, .ex (.bin .add .i64 (.var 4) (.lit 1))])))))))
 (.ret [.var 3])))
def tOverInts : Tree := (.loop 0 3 [.var 0, .ex (.lit 0)] tOverIntsL0)
theorem rOverInts : runCtr { (cxEO Try.prog [lOverInts]) with hints := hsOverInts } 20 cOverInts [] [] = tOverInts := by kernel_rfl

def hsTold : List (Nat × Nat × List Nat) := []
def tTold : Tree := (.br (.isnil 1)
 (.br (.isnil 3)
 (.br (.isnil 5)
 (.ret [.var 0, .var 1, .var 2, .var 3, .var 4, .var 5, .var 6, .var 7, .bx (.lit true)])
 (.br (.var 8)
 (.and (.call 8 [.var 4, .var 6] (.and (.call 9 [.var 5, .var 7] (.br (.beq (.var 11) (.var 14))
 (.and (.call 10 [.var 9] (.and (.call 11 [.var 12] (.ret [.var 0, .var 1, .var 2, .var 3, .var 15, .var 17, .var 10, .var 13, .bx (.cmp .eql (.var 16) (.var 18))])) .ok)) .ok)
 (.ret [.var 0, .var 1, .var 2, .var 3, .var 9, .var 12, .var 10, .var 13, .bx (.lit false)]))) .ok)) .ok)
 (.and (.call 10 [.var 4] (.and (.call 11 [.var 5] (.ret [.var 0, .var 1, .var 2, .var 3, .var 9, .var 11, .var 6, .var 7, .bx (.cmp .eql (.var 10) (.var 12))])) .ok)) .ok)))
 (.br (.var 8)
 (.and (.call 4 [.var 2, .var 6] (.and (.call 5 [.var 3, .var 7] (.br (.beq (.var 11) (.var 14))
 (.and (.call 6 [.var 9] (.and (.call 7 [.var 12] (.ret [.var 0, .var 1, .var 15, .var 17, .var 4, .var 5, .var 10, .var 13, .bx (.cmp .eql (.var 16) (.var 18))])) .ok)) .ok)
 (.ret [.var 0, .var 1, .var 9, .var 12, .var 4, .var 5, .var 10, .var 13, .bx (.lit false)]))) .ok)) .ok)
 (.and (.call 6 [.var 2] (.and (.call 7 [.var 3] (.ret [.var 0, .var 1, .var 9, .var 11, .var 4, .var 5, .var 6, .var 7, .bx (.cmp .eql (.var 10) (.var 12))])) .ok)) .ok)))
 (.br (.var 8)
 (.and (.call 0 [.var 0, .var 6] (.and (.call 1 [.var 1, .var 7] (.call 2 [.var 9] (.call 3 [.var 12] (.br (.beq (.var 11) (.var 14))
 (.br (.cmp .eql (.var 16) (.var 19))
 (.ret [.var 15, .var 18, .var 2, .var 3, .var 4, .var 5, .var 10, .var 13, .bx (.cmp .eql (.var 17) (.var 20))])
 (.ret [.var 15, .var 18, .var 2, .var 3, .var 4, .var 5, .var 10, .var 13, .bx (.lit false)]))
 (.ret [.var 15, .var 18, .var 2, .var 3, .var 4, .var 5, .var 10, .var 13, .bx (.lit false)]))))) .ok)) .ok)
 (.call 2 [.var 0] (.call 3 [.var 1] (.br (.cmp .eql (.var 10) (.var 13))
 (.ret [.var 9, .var 12, .var 2, .var 3, .var 4, .var 5, .var 6, .var 7, .bx (.cmp .eql (.var 11) (.var 14))])
 (.ret [.var 9, .var 12, .var 2, .var 3, .var 4, .var 5, .var 6, .var 7, .bx (.lit false)]))))))
theorem rTold : runCtr { (cx Try.prog ctsEO) with hints := hsTold } 20 cTold [] [] = tTold := by kernel_rfl

def hsTold1 : List (Nat × Nat × List Nat) := []
def tTold1 : Tree := (.br (.isnil 1)
 (.ret [.var 0, .var 1, .var 2, .var 3, .bx (.lit true)])
 (.br (.var 4)
 (.and (.call 0 [.var 0, .var 2] (.and (.call 1 [.var 1, .var 3] (.call 2 [.var 5] (.call 3 [.var 8] (.br (.beq (.var 7) (.var 10))
 (.br (.cmp .eql (.var 12) (.var 15))
 (.ret [.var 11, .var 14, .var 6, .var 9, .bx (.cmp .eql (.var 13) (.var 16))])
 (.ret [.var 11, .var 14, .var 6, .var 9, .bx (.lit false)]))
 (.ret [.var 11, .var 14, .var 6, .var 9, .bx (.lit false)]))))) .ok)) .ok)
 (.call 2 [.var 0] (.call 3 [.var 1] (.br (.cmp .eql (.var 6) (.var 9))
 (.ret [.var 5, .var 8, .var 2, .var 3, .bx (.cmp .eql (.var 7) (.var 10))])
 (.ret [.var 5, .var 8, .var 2, .var 3, .bx (.lit false)]))))))
theorem rTold1 : runCtr { (cx Try.prog ctsEO) with hints := hsTold1 } 20 cTold1 [] [] = tTold1 := by kernel_rfl

def hsTold2 : List (Nat × Nat × List Nat) := []
def tTold2 : Tree := (.br (.isnil 1)
 (.ret [.var 0, .var 1, .var 2, .var 3, .bx (.lit true)])
 (.br (.var 4)
 (.and (.call 4 [.var 0, .var 2] (.and (.call 5 [.var 1, .var 3] (.br (.beq (.var 7) (.var 10))
 (.and (.call 6 [.var 5] (.and (.call 7 [.var 8] (.ret [.var 11, .var 13, .var 6, .var 9, .bx (.cmp .eql (.var 12) (.var 14))])) .ok)) .ok)
 (.ret [.var 5, .var 8, .var 6, .var 9, .bx (.lit false)]))) .ok)) .ok)
 (.and (.call 6 [.var 0] (.and (.call 7 [.var 1] (.ret [.var 5, .var 7, .var 2, .var 3, .bx (.cmp .eql (.var 6) (.var 8))])) .ok)) .ok)))
theorem rTold2 : runCtr { (cx Try.prog ctsEO) with hints := hsTold2 } 20 cTold2 [] [] = tTold2 := by kernel_rfl

def hsTold3 : List (Nat × Nat × List Nat) := []
def tTold3 : Tree := (.br (.isnil 1)
 (.ret [.var 0, .var 1, .var 2, .var 3, .bx (.lit true)])
 (.br (.var 4)
 (.and (.call 8 [.var 0, .var 2] (.and (.call 9 [.var 1, .var 3] (.br (.beq (.var 7) (.var 10))
 (.and (.call 10 [.var 5] (.and (.call 11 [.var 8] (.ret [.var 11, .var 13, .var 6, .var 9, .bx (.cmp .eql (.var 12) (.var 14))])) .ok)) .ok)
 (.ret [.var 5, .var 8, .var 6, .var 9, .bx (.lit false)]))) .ok)) .ok)
 (.and (.call 10 [.var 0] (.and (.call 11 [.var 1] (.ret [.var 5, .var 7, .var 2, .var 3, .bx (.cmp .eql (.var 6) (.var 8))])) .ok)) .ok)))
theorem rTold3 : runCtr { (cx Try.prog ctsEO) with hints := hsTold3 } 20 cTold3 [] [] = tTold3 := by kernel_rfl

end Go.Proofs.Ytjohihkbampbgaa
