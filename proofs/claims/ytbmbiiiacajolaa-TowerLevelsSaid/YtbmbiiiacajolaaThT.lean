/- The ways of the runs, as a program of ours printed them. -/
import Derived.Test.YtbmbiiiacajolaaTh
import Derived.KernelRfl
namespace Go.Proofs.Ytbmbiiiacajolaa
set_option linter.unusedVariables false
set_option linter.unusedSimpArgs false
set_option linter.unusedSectionVars false
open Go
set_option maxRecDepth 100000

def hsFillC : List (Nat × Nat × List Nat) := []
def tFillC : Tree := (.and (.and (.and (.and (.and (.and (.call 1 [.var 0, .ex (.lit 0), .ex (.lit 1)] (.and (.and (.and (.and (.and (.and (.call 1 [.var 1, .ex (.lit 1), .ex (.lit 2)] (.and (.and (.and (.and (.and (.and (.call 1 [.var 2, .ex (.lit 2), .ex (.lit 3)] (.and (.and (.and (.and (.and (.and (.call 1 [.var 3, .ex (.lit 3), .ex (.lit 0)] (.call 1 [.var 4, .ex (.lit 7), .ex (.lit 0)] (.call 1 [.var 5, .ex (.lit 4), .ex (.lit 1)] (.call 1 [.var 6, .ex (.lit 5), .ex (.lit 1)] (.call 1 [.var 7, .ex (.lit 6), .ex (.lit 1)] (.call 1 [.var 8, .ex (.lit 8), .ex (.lit 0)] (.rng (.call 1 [.var 9, .ex (.lit 9), .ex (.lit 0)] (.call 1 [.var 11, .ex (.lit 10), .ex (.lit 0)] (.call 1 [.var 12, .ex (.lit 11), .ex (.lit 0)] (.call 1 [.var 13, .ex (.lit 12), .ex (.lit 0)] (.call 1 [.var 14, .ex (.lit 13), .ex (.lit 0)] (.call 1 [.var 15, .ex (.lit 14), .ex (.lit 0)] (.call 1 [.var 16, .ex (.lit 15), .ex (.lit 0)] (.ret [.var 17]))))))))))))))) .ok) .ok) .ok) .ok) .ok) .ok)) .ok) .ok) .ok) .ok) .ok) .ok)) .ok) .ok) .ok) .ok) .ok) .ok)) .ok) .ok) .ok) .ok) .ok) .ok)
theorem rFillC : runCtr { (cxT0 Try.prog) with hints := hsFillC } 40 cTFillC [] [] = tFillC := by kernel_rfl

def hsMemAt : List (Nat × Nat × List Nat) := []
def tMemAt : Tree := (.br (.cmp .lss (.var 3) (.lit 0))
 (.ret [.ex (.lit 0)])
 (.need (.cmp .leq (.lit 0) (.var 1)) (.br (.cmp .geq (.var 3) (.var 1))
 (.ret [.ex (.lit 0)])
 (.need (.cmp .leq (.lit 0) (.var 3)) (.need (.cmp .lss (.var 3) (.var 1)) (.need (.cmp .lss (.var 3) (.len 0)) (.need (.cmp .leq (.lit 0) (.var 3)) (.need (.cmp .lss (.var 3) (.len 0)) (.ret [.ex (.nth 0 (.var 3))])))))))))
theorem rMemAt : runCtr { (cxT0j Try.prog) with hints := hsMemAt } 40 cMemAt [] [] = tMemAt := by kernel_rfl

def hsRef0 : List (Nat × Nat × List Nat) := []
def tRef0 : Tree := (.and (.and (.and (.and (.and (.and (.br (.cmp .lss (.var 0) (.lit 0))
 (Tree.fail "result check")
 (.br (.cmp .gtr (.var 0) (.lit 65534))
 (Tree.fail "result check")
 (.br (.cmp .lss (.var 1) (.lit 1))
 (Tree.fail "result check")
 (.br (.cmp .gtr (.var 1) (.lit 2))
 (Tree.fail "result check")
 (.ret []))))) .ok) .ok) .ok) .ok) .ok)
 (.and (.and (.and (.and (.and .ok .ok) .ok)
 (.and (.and (.and .ok .ok) .ok) .ok))
 (.and (.and (.and (.and .ok .ok) .ok) .ok) .ok))
 (.and (.and (.and (.and (.and .ok .ok) .ok) .ok) .ok) .ok)))
theorem rRef0 : runCtr { (cxT0j Try.prog) with hints := hsRef0 } 40 cRef0 [] [] = tRef0 := by kernel_rfl

def hsRef1 : List (Nat × Nat × List Nat) := []
def tRef1 : Tree := (.and (.and (.and (.and (.and (.and (.br (.cmp .lss (.var 0) (.lit 0))
 (Tree.fail "result check")
 (.br (.cmp .gtr (.var 0) (.lit 65534))
 (Tree.fail "result check")
 (.br (.cmp .lss (.var 1) (.lit 1))
 (Tree.fail "result check")
 (.br (.cmp .gtr (.var 1) (.lit 2))
 (Tree.fail "result check")
 (.ret []))))) .ok) .ok) .ok) .ok) .ok)
 (.and (.and (.and (.and (.and .ok .ok) .ok)
 (.and (.and (.and .ok .ok) .ok) .ok))
 (.and (.and (.and (.and .ok .ok) .ok) .ok) .ok))
 (.and (.and (.and (.and (.and .ok .ok) .ok) .ok) .ok) .ok)))
theorem rRef1 : runCtr { (cxT0j Try.prog) with hints := hsRef1 } 40 cRef1 [] [] = tRef1 := by kernel_rfl

def hsRef2 : List (Nat × Nat × List Nat) := []
def tRef2 : Tree := (.and (.and (.and (.and (.and (.and (.br (.cmp .lss (.var 0) (.lit 0))
 (Tree.fail "result check")
 (.br (.cmp .gtr (.var 0) (.lit 65534))
 (Tree.fail "result check")
 (.br (.cmp .lss (.var 1) (.lit 1))
 (Tree.fail "result check")
 (.br (.cmp .gtr (.var 1) (.lit 2))
 (Tree.fail "result check")
 (.ret []))))) .ok) .ok) .ok) .ok) .ok)
 (.and (.and (.and (.and (.and .ok .ok) .ok)
 (.and (.and (.and .ok .ok) .ok) .ok))
 (.and (.and (.and (.and .ok .ok) .ok) .ok) .ok))
 (.and (.and (.and (.and (.and .ok .ok) .ok) .ok) .ok) .ok)))
theorem rRef2 : runCtr { (cxT0j Try.prog) with hints := hsRef2 } 40 cRef2 [] [] = tRef2 := by kernel_rfl

def hsNode0 : List (Nat × Nat × List Nat) := []
def tNode0 : Tree := (.and (.call 0 [.var 0] (.and (.and (.and (.call 1 [.var 2, .ex (.var 3), .ex (.var 3), .ex (.lit 16)] (.and (.and (.and (.call 1 [.var 2, .ex (.var 3), .ex (.var 3), .ex (.lit 17)] (.and (.and (.and (.call 1 [.var 2, .ex (.var 3), .ex (.var 3), .ex (.lit 18)] (.and (.and (.and (.call 1 [.var 2, .ex (.var 3), .ex (.var 3), .ex (.lit 19)] (.and (.and (.and (.and (.and (.call 1 [.var 2, .ex (.var 3), .ex (.var 3), .ex (.lit 20)] (.and (.and (.app none (.lit 0) (.var 8) (.and (.and (.and (.and (.and (.and (.call 1 [.var 2, .ex (.var 3), .ex (.var 3), .ex (.lit 21)] (.and (.and (.need (.cmp .leq (.lit 1) (.var 10)) (.need (.cmp .leq (.var 10) (.len 9)) (.need (.cmp .leq (.len 9) (.var 10)) (.app (some 9) (.lit 1) (.var 11) (.and (.ret [.var 1, .ex (.var 4), .ex (.var 5), .ex (.var 6), .ex (.var 7), .var 12, .ex (.var 13)]) .ok))))) .ok) .ok)) .ok) .ok) .ok) .ok)
 (.and (.and (.and (.and (.call 1 [.var 2, .ex (.var 3), .ex (.var 3), .ex (.lit 21)] (.and (.and (.and (.need (.cmp .leq (.lit 1) (.var 10)) (.need (.cmp .leq (.var 10) (.len 9)) (.need (.cmp .leq (.len 9) (.var 10)) (.app (some 9) (.lit 1) (.var 11) (.and (.ret [.var 1, .ex (.var 4), .ex (.var 5), .ex (.var 6), .ex (.var 7), .var 12, .ex (.var 13)]) .ok))))) .ok) .ok)
 (.and (.and (.and (.need (.cmp .leq (.lit 1) (.var 10)) (.need (.cmp .leq (.var 10) (.len 9)) (.need (.cmp .leq (.len 9) (.var 10)) (.app (some 9) (.lit 1) (.var 11) (.and (.ret [.var 1, .ex (.var 4), .ex (.var 5), .ex (.var 6), .ex (.var 7), .var 12, .ex (.var 13)]) .ok))))) .ok) .ok) .ok))) .ok) .ok) .ok) .ok)) .ok)) .ok) .ok)) .ok) .ok) .ok) .ok)
 (.and (.and (.and (.and (.call 1 [.var 2, .ex (.var 3), .ex (.var 3), .ex (.lit 20)] (.and (.and (.and (.app none (.lit 0) (.var 8) (.and (.and (.and (.and (.and (.and (.call 1 [.var 2, .ex (.var 3), .ex (.var 3), .ex (.lit 21)] (.and (.and (.need (.cmp .leq (.lit 1) (.var 10)) (.need (.cmp .leq (.var 10) (.len 9)) (.need (.cmp .leq (.len 9) (.var 10)) (.app (some 9) (.lit 1) (.var 11) (.and (.ret [.var 1, .ex (.var 4), .ex (.var 5), .ex (.var 6), .ex (.var 7), .var 12, .ex (.var 13)]) .ok))))) .ok) .ok)) .ok) .ok) .ok) .ok)
 (.and (.and (.and (.and (.call 1 [.var 2, .ex (.var 3), .ex (.var 3), .ex (.lit 21)] (.and (.and (.and (.need (.cmp .leq (.lit 1) (.var 10)) (.need (.cmp .leq (.var 10) (.len 9)) (.need (.cmp .leq (.len 9) (.var 10)) (.app (some 9) (.lit 1) (.var 11) (.and (.ret [.var 1, .ex (.var 4), .ex (.var 5), .ex (.var 6), .ex (.var 7), .var 12, .ex (.var 13)]) .ok))))) .ok) .ok)
 (.and (.and (.and (.need (.cmp .leq (.lit 1) (.var 10)) (.need (.cmp .leq (.var 10) (.len 9)) (.need (.cmp .leq (.len 9) (.var 10)) (.app (some 9) (.lit 1) (.var 11) (.and (.ret [.var 1, .ex (.var 4), .ex (.var 5), .ex (.var 6), .ex (.var 7), .var 12, .ex (.var 13)]) .ok))))) .ok) .ok) .ok))) .ok) .ok) .ok) .ok)) .ok)) .ok) .ok)
 (.and (.and (.and (.app none (.lit 0) (.var 8) (.and (.and (.and (.and (.and (.and (.call 1 [.var 2, .ex (.var 3), .ex (.var 3), .ex (.lit 21)] (.and (.and (.need (.cmp .leq (.lit 1) (.var 10)) (.need (.cmp .leq (.var 10) (.len 9)) (.need (.cmp .leq (.len 9) (.var 10)) (.app (some 9) (.lit 1) (.var 11) (.and (.ret [.var 1, .ex (.var 4), .ex (.var 5), .ex (.var 6), .ex (.var 7), .var 12, .ex (.var 13)]) .ok))))) .ok) .ok)) .ok) .ok) .ok) .ok)
 (.and (.and (.and (.and (.call 1 [.var 2, .ex (.var 3), .ex (.var 3), .ex (.lit 21)] (.and (.and (.and (.need (.cmp .leq (.lit 1) (.var 10)) (.need (.cmp .leq (.var 10) (.len 9)) (.need (.cmp .leq (.len 9) (.var 10)) (.app (some 9) (.lit 1) (.var 11) (.and (.ret [.var 1, .ex (.var 4), .ex (.var 5), .ex (.var 6), .ex (.var 7), .var 12, .ex (.var 13)]) .ok))))) .ok) .ok)
 (.and (.and (.and (.need (.cmp .leq (.lit 1) (.var 10)) (.need (.cmp .leq (.var 10) (.len 9)) (.need (.cmp .leq (.len 9) (.var 10)) (.app (some 9) (.lit 1) (.var 11) (.and (.ret [.var 1, .ex (.var 4), .ex (.var 5), .ex (.var 6), .ex (.var 7), .var 12, .ex (.var 13)]) .ok))))) .ok) .ok) .ok))) .ok) .ok) .ok) .ok)) .ok)) .ok) .ok) .ok))) .ok) .ok) .ok) .ok))) .ok) .ok) .ok)) .ok) .ok) .ok)) .ok) .ok) .ok)) .ok) .ok) .ok)) .ok)
theorem rNode0 : runCtr { (cxTn Try.prog) with hints := hsNode0 } 40 cNode0 [] [] = tNode0 := by kernel_rfl

def hsNode1 : List (Nat × Nat × List Nat) := []
def tNode1 : Tree := (.and (.call 0 [.var 0] (.and (.and (.and (.call 1 [.var 2, .ex (.var 3), .ex (.var 3), .ex (.lit 22)] (.and (.and (.and (.call 1 [.var 2, .ex (.var 3), .ex (.var 3), .ex (.lit 23)] (.and (.and (.and (.call 1 [.var 2, .ex (.var 3), .ex (.var 3), .ex (.lit 24)] (.and (.and (.and (.call 1 [.var 2, .ex (.var 3), .ex (.var 3), .ex (.lit 25)] (.and (.and (.and (.and (.and (.call 1 [.var 2, .ex (.var 3), .ex (.var 3), .ex (.lit 26)] (.and (.and (.app none (.lit 0) (.var 8) (.and (.and (.and (.and (.and (.and (.call 1 [.var 2, .ex (.var 3), .ex (.var 3), .ex (.lit 27)] (.and (.and (.need (.cmp .leq (.lit 1) (.var 10)) (.need (.cmp .leq (.var 10) (.len 9)) (.need (.cmp .leq (.len 9) (.var 10)) (.app (some 9) (.lit 1) (.var 11) (.and (.ret [.var 1, .ex (.var 4), .ex (.var 5), .ex (.var 6), .ex (.var 7), .var 12, .ex (.var 13)]) .ok))))) .ok) .ok)) .ok) .ok) .ok) .ok)
 (.and (.and (.and (.and (.call 1 [.var 2, .ex (.var 3), .ex (.var 3), .ex (.lit 27)] (.and (.and (.and (.need (.cmp .leq (.lit 1) (.var 10)) (.need (.cmp .leq (.var 10) (.len 9)) (.need (.cmp .leq (.len 9) (.var 10)) (.app (some 9) (.lit 1) (.var 11) (.and (.ret [.var 1, .ex (.var 4), .ex (.var 5), .ex (.var 6), .ex (.var 7), .var 12, .ex (.var 13)]) .ok))))) .ok) .ok)
 (.and (.and (.and (.need (.cmp .leq (.lit 1) (.var 10)) (.need (.cmp .leq (.var 10) (.len 9)) (.need (.cmp .leq (.len 9) (.var 10)) (.app (some 9) (.lit 1) (.var 11) (.and (.ret [.var 1, .ex (.var 4), .ex (.var 5), .ex (.var 6), .ex (.var 7), .var 12, .ex (.var 13)]) .ok))))) .ok) .ok) .ok))) .ok) .ok) .ok) .ok)) .ok)) .ok) .ok)) .ok) .ok) .ok) .ok)
 (.and (.and (.and (.and (.call 1 [.var 2, .ex (.var 3), .ex (.var 3), .ex (.lit 26)] (.and (.and (.and (.app none (.lit 0) (.var 8) (.and (.and (.and (.and (.and (.and (.call 1 [.var 2, .ex (.var 3), .ex (.var 3), .ex (.lit 27)] (.and (.and (.need (.cmp .leq (.lit 1) (.var 10)) (.need (.cmp .leq (.var 10) (.len 9)) (.need (.cmp .leq (.len 9) (.var 10)) (.app (some 9) (.lit 1) (.var 11) (.and (.ret [.var 1, .ex (.var 4), .ex (.var 5), .ex (.var 6), .ex (.var 7), .var 12, .ex (.var 13)]) .ok))))) .ok) .ok)) .ok) .ok) .ok) .ok)
 (.and (.and (.and (.and (.call 1 [.var 2, .ex (.var 3), .ex (.var 3), .ex (.lit 27)] (.and (.and (.and (.need (.cmp .leq (.lit 1) (.var 10)) (.need (.cmp .leq (.var 10) (.len 9)) (.need (.cmp .leq (.len 9) (.var 10)) (.app (some 9) (.lit 1) (.var 11) (.and (.ret [.var 1, .ex (.var 4), .ex (.var 5), .ex (.var 6), .ex (.var 7), .var 12, .ex (.var 13)]) .ok))))) .ok) .ok)
 (.and (.and (.and (.need (.cmp .leq (.lit 1) (.var 10)) (.need (.cmp .leq (.var 10) (.len 9)) (.need (.cmp .leq (.len 9) (.var 10)) (.app (some 9) (.lit 1) (.var 11) (.and (.ret [.var 1, .ex (.var 4), .ex (.var 5), .ex (.var 6), .ex (.var 7), .var 12, .ex (.var 13)]) .ok))))) .ok) .ok) .ok))) .ok) .ok) .ok) .ok)) .ok)) .ok) .ok)
 (.and (.and (.and (.app none (.lit 0) (.var 8) (.and (.and (.and (.and (.and (.and (.call 1 [.var 2, .ex (.var 3), .ex (.var 3), .ex (.lit 27)] (.and (.and (.need (.cmp .leq (.lit 1) (.var 10)) (.need (.cmp .leq (.var 10) (.len 9)) (.need (.cmp .leq (.len 9) (.var 10)) (.app (some 9) (.lit 1) (.var 11) (.and (.ret [.var 1, .ex (.var 4), .ex (.var 5), .ex (.var 6), .ex (.var 7), .var 12, .ex (.var 13)]) .ok))))) .ok) .ok)) .ok) .ok) .ok) .ok)
 (.and (.and (.and (.and (.call 1 [.var 2, .ex (.var 3), .ex (.var 3), .ex (.lit 27)] (.and (.and (.and (.need (.cmp .leq (.lit 1) (.var 10)) (.need (.cmp .leq (.var 10) (.len 9)) (.need (.cmp .leq (.len 9) (.var 10)) (.app (some 9) (.lit 1) (.var 11) (.and (.ret [.var 1, .ex (.var 4), .ex (.var 5), .ex (.var 6), .ex (.var 7), .var 12, .ex (.var 13)]) .ok))))) .ok) .ok)
 (.and (.and (.and (.need (.cmp .leq (.lit 1) (.var 10)) (.need (.cmp .leq (.var 10) (.len 9)) (.need (.cmp .leq (.len 9) (.var 10)) (.app (some 9) (.lit 1) (.var 11) (.and (.ret [.var 1, .ex (.var 4), .ex (.var 5), .ex (.var 6), .ex (.var 7), .var 12, .ex (.var 13)]) .ok))))) .ok) .ok) .ok))) .ok) .ok) .ok) .ok)) .ok)) .ok) .ok) .ok))) .ok) .ok) .ok) .ok))) .ok) .ok) .ok)) .ok) .ok) .ok)) .ok) .ok) .ok)) .ok) .ok) .ok)) .ok)
theorem rNode1 : runCtr { (cxTn Try.prog) with hints := hsNode1 } 40 cNode1 [] [] = tNode1 := by kernel_rfl

def hsNode2 : List (Nat × Nat × List Nat) := []
def tNode2 : Tree := (.and (.call 0 [.var 0] (.and (.and (.and (.call 1 [.var 2, .ex (.var 3), .ex (.var 3), .ex (.lit 28)] (.and (.and (.and (.call 1 [.var 2, .ex (.var 3), .ex (.var 3), .ex (.lit 29)] (.and (.and (.and (.call 1 [.var 2, .ex (.var 3), .ex (.var 3), .ex (.lit 30)] (.and (.and (.and (.call 1 [.var 2, .ex (.var 3), .ex (.var 3), .ex (.lit 31)] (.and (.and (.and (.and (.and (.call 1 [.var 2, .ex (.var 3), .ex (.var 3), .ex (.lit 32)] (.and (.and (.app none (.lit 0) (.var 8) (.and (.and (.and (.and (.and (.and (.call 1 [.var 2, .ex (.var 3), .ex (.var 3), .ex (.lit 33)] (.and (.and (.need (.cmp .leq (.lit 1) (.var 10)) (.need (.cmp .leq (.var 10) (.len 9)) (.need (.cmp .leq (.len 9) (.var 10)) (.app (some 9) (.lit 1) (.var 11) (.and (.ret [.var 1, .ex (.var 4), .ex (.var 5), .ex (.var 6), .ex (.var 7), .var 12, .ex (.var 13)]) .ok))))) .ok) .ok)) .ok) .ok) .ok) .ok)
 (.and (.and (.and (.and (.call 1 [.var 2, .ex (.var 3), .ex (.var 3), .ex (.lit 33)] (.and (.and (.and (.need (.cmp .leq (.lit 1) (.var 10)) (.need (.cmp .leq (.var 10) (.len 9)) (.need (.cmp .leq (.len 9) (.var 10)) (.app (some 9) (.lit 1) (.var 11) (.and (.ret [.var 1, .ex (.var 4), .ex (.var 5), .ex (.var 6), .ex (.var 7), .var 12, .ex (.var 13)]) .ok))))) .ok) .ok)
 (.and (.and (.and (.need (.cmp .leq (.lit 1) (.var 10)) (.need (.cmp .leq (.var 10) (.len 9)) (.need (.cmp .leq (.len 9) (.var 10)) (.app (some 9) (.lit 1) (.var 11) (.and (.ret [.var 1, .ex (.var 4), .ex (.var 5), .ex (.var 6), .ex (.var 7), .var 12, .ex (.var 13)]) .ok))))) .ok) .ok) .ok))) .ok) .ok) .ok) .ok)) .ok)) .ok) .ok)) .ok) .ok) .ok) .ok)
 (.and (.and (.and (.and (.call 1 [.var 2, .ex (.var 3), .ex (.var 3), .ex (.lit 32)] (.and (.and (.and (.app none (.lit 0) (.var 8) (.and (.and (.and (.and (.and (.and (.call 1 [.var 2, .ex (.var 3), .ex (.var 3), .ex (.lit 33)] (.and (.and (.need (.cmp .leq (.lit 1) (.var 10)) (.need (.cmp .leq (.var 10) (.len 9)) (.need (.cmp .leq (.len 9) (.var 10)) (.app (some 9) (.lit 1) (.var 11) (.and (.ret [.var 1, .ex (.var 4), .ex (.var 5), .ex (.var 6), .ex (.var 7), .var 12, .ex (.var 13)]) .ok))))) .ok) .ok)) .ok) .ok) .ok) .ok)
 (.and (.and (.and (.and (.call 1 [.var 2, .ex (.var 3), .ex (.var 3), .ex (.lit 33)] (.and (.and (.and (.need (.cmp .leq (.lit 1) (.var 10)) (.need (.cmp .leq (.var 10) (.len 9)) (.need (.cmp .leq (.len 9) (.var 10)) (.app (some 9) (.lit 1) (.var 11) (.and (.ret [.var 1, .ex (.var 4), .ex (.var 5), .ex (.var 6), .ex (.var 7), .var 12, .ex (.var 13)]) .ok))))) .ok) .ok)
 (.and (.and (.and (.need (.cmp .leq (.lit 1) (.var 10)) (.need (.cmp .leq (.var 10) (.len 9)) (.need (.cmp .leq (.len 9) (.var 10)) (.app (some 9) (.lit 1) (.var 11) (.and (.ret [.var 1, .ex (.var 4), .ex (.var 5), .ex (.var 6), .ex (.var 7), .var 12, .ex (.var 13)]) .ok))))) .ok) .ok) .ok))) .ok) .ok) .ok) .ok)) .ok)) .ok) .ok)
 (.and (.and (.and (.app none (.lit 0) (.var 8) (.and (.and (.and (.and (.and (.and (.call 1 [.var 2, .ex (.var 3), .ex (.var 3), .ex (.lit 33)] (.and (.and (.need (.cmp .leq (.lit 1) (.var 10)) (.need (.cmp .leq (.var 10) (.len 9)) (.need (.cmp .leq (.len 9) (.var 10)) (.app (some 9) (.lit 1) (.var 11) (.and (.ret [.var 1, .ex (.var 4), .ex (.var 5), .ex (.var 6), .ex (.var 7), .var 12, .ex (.var 13)]) .ok))))) .ok) .ok)) .ok) .ok) .ok) .ok)
 (.and (.and (.and (.and (.call 1 [.var 2, .ex (.var 3), .ex (.var 3), .ex (.lit 33)] (.and (.and (.and (.need (.cmp .leq (.lit 1) (.var 10)) (.need (.cmp .leq (.var 10) (.len 9)) (.need (.cmp .leq (.len 9) (.var 10)) (.app (some 9) (.lit 1) (.var 11) (.and (.ret [.var 1, .ex (.var 4), .ex (.var 5), .ex (.var 6), .ex (.var 7), .var 12, .ex (.var 13)]) .ok))))) .ok) .ok)
 (.and (.and (.and (.need (.cmp .leq (.lit 1) (.var 10)) (.need (.cmp .leq (.var 10) (.len 9)) (.need (.cmp .leq (.len 9) (.var 10)) (.app (some 9) (.lit 1) (.var 11) (.and (.ret [.var 1, .ex (.var 4), .ex (.var 5), .ex (.var 6), .ex (.var 7), .var 12, .ex (.var 13)]) .ok))))) .ok) .ok) .ok))) .ok) .ok) .ok) .ok)) .ok)) .ok) .ok) .ok))) .ok) .ok) .ok) .ok))) .ok) .ok) .ok)) .ok) .ok) .ok)) .ok) .ok) .ok)) .ok) .ok) .ok)) .ok)
theorem rNode2 : runCtr { (cxTn Try.prog) with hints := hsNode2 } 40 cNode2 [] [] = tNode2 := by kernel_rfl

end Go.Proofs.Ytbmbiiiacajolaa
