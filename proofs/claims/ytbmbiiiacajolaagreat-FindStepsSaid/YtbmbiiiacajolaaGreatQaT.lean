/- The ways of the runs, as a program of ours printed them. -/
import Derived.Test.YtbmbiiiacajolaaGreatQa
import Derived.KernelRfl
namespace Go.Proofs.YtbmbiiiacajolaaGreat
set_option linter.unusedVariables false
set_option linter.unusedSimpArgs false
set_option linter.unusedSectionVars false
open Go
set_option maxRecDepth 100000

def hsFIdx1 : List (Nat × Nat × List Nat) := []
def tFIdx1 : Tree := (.and (.and (.and (.br (.cmp .geq (.bin .sub .i64 (.conv .i64 (.bin .and .u64 (.bin .shr .u64 (.var 25) (.lit 0)) (.lit 65535))) (.lit 1)) (.var 5))
 (.ret [.ex (.lit (-1))])
 (.ret [.ex (.bin .sub .i64 (.conv .i64 (.bin .and .u64 (.bin .shr .u64 (.var 25) (.lit 0)) (.lit 65535))) (.lit 1))])) .ok) .ok) .ok)
theorem rFIdx1 : runCtr { (cxQi Tryz.prog) with hints := hsFIdx1 } 20 cFIdx1 [] [] = tFIdx1 := by kernel_rfl

def hsFIdx2 : List (Nat × Nat × List Nat) := []
def tFIdx2 : Tree := (.and (.and (.and (.br (.cmp .geq (.bin .sub .i64 (.conv .i64 (.bin .and .u64 (.bin .shr .u64 (.var 25) (.lit 0)) (.lit 65535))) (.lit 1)) (.var 5))
 (.ret [.ex (.lit (-1))])
 (.ret [.ex (.bin .sub .i64 (.conv .i64 (.bin .and .u64 (.bin .shr .u64 (.var 25) (.lit 0)) (.lit 65535))) (.lit 1))])) .ok) .ok) .ok)
theorem rFIdx2 : runCtr { (cxQi Tryz.prog) with hints := hsFIdx2 } 20 cFIdx2 [] [] = tFIdx2 := by kernel_rfl

def hsFIdx3 : List (Nat × Nat × List Nat) := []
def tFIdx3 : Tree := (.and (.and (.and (.br (.cmp .geq (.bin .sub .i64 (.conv .i64 (.bin .and .u64 (.bin .shr .u64 (.var 25) (.lit 0)) (.lit 65535))) (.lit 1)) (.var 5))
 (.ret [.ex (.lit (-1))])
 (.ret [.ex (.bin .sub .i64 (.conv .i64 (.bin .and .u64 (.bin .shr .u64 (.var 25) (.lit 0)) (.lit 65535))) (.lit 1))])) .ok) .ok) .ok)
theorem rFIdx3 : runCtr { (cxQi Tryz.prog) with hints := hsFIdx3 } 20 cFIdx3 [] [] = tFIdx3 := by kernel_rfl

def hsFIdx4 : List (Nat × Nat × List Nat) := []
def tFIdx4 : Tree := (.and (.and (.and (.br (.cmp .geq (.bin .sub .i64 (.conv .i64 (.bin .and .u64 (.bin .shr .u64 (.var 25) (.lit 0)) (.lit 65535))) (.lit 1)) (.var 5))
 (.ret [.ex (.lit (-1))])
 (.ret [.ex (.bin .sub .i64 (.conv .i64 (.bin .and .u64 (.bin .shr .u64 (.var 25) (.lit 0)) (.lit 65535))) (.lit 1))])) .ok) .ok) .ok)
theorem rFIdx4 : runCtr { (cxQi Tryz.prog) with hints := hsFIdx4 } 20 cFIdx4 [] [] = tFIdx4 := by kernel_rfl

def hsNextP : List (Nat × Nat × List Nat) := []
def tNextP : Tree := (.br (.cmp .lss (.var 14) (.lit 0))
 (.ret [.ex (.lit (-1))])
 (.br (.cmp .geq (.var 14) (.lit 4))
 (.ret [.ex (.lit (-1))])
 (.call 0 (va [0, 1, 2, 3, 4, 5, 6, 7, 8, 9, 10, 11, 12, 13] ([.ex (.bin .add .i64 (.lit 4) (.var 14))])) (.ret [.ex (.var 15)]))))
theorem rNextP : runCtr { (cxQ0 Tryz.prog) with hints := hsNextP } 20 cNextP [] [] = tNextP := by
  dsimp only [tNextP, va, List.map_cons, List.map_nil, List.cons_append, List.nil_append]
  kernel_rfl

def hsNextQ : List (Nat × Nat × List Nat) := []
def tNextQ : Tree := (.br (.cmp .lss (.var 14) (.lit 0))
 (.ret [.ex (.lit (-1))])
 (.br (.cmp .geq (.var 14) (.lit 4))
 (.ret [.ex (.lit (-1))])
 (.call 0 (va [0, 1, 2, 3, 4, 5, 6, 7, 8, 9, 10, 11, 12, 13] ([.ex (.bin .add .i64 (.lit 4) (.var 14))])) (.ret [.ex (.var 15)]))))
theorem rNextQ : runCtr { (cxQ1 Tryz.prog) with hints := hsNextQ } 20 cNextQ [] [] = tNextQ := by
  dsimp only [tNextQ, va, List.map_cons, List.map_nil, List.cons_append, List.nil_append]
  kernel_rfl

def hsIdxQ : List (Nat × Nat × List Nat) := []
def tIdxQ : Tree := (.br (.cmp .geq (.bin .sub .i64 (.conv .i64 (.bin .rem .u64 (.var 13) (.lit 65536))) (.lit 1)) (.var 5))
 (.ret [.ex (.lit (-1))])
 (.ret [.ex (.bin .sub .i64 (.conv .i64 (.bin .rem .u64 (.var 13) (.lit 65536))) (.lit 1))]))
theorem rIdxQ : runCtr { (cxQi Tryz.prog) with hints := hsIdxQ } 20 cIdxQ [] [] = tIdxQ := by kernel_rfl

def hsFNew1 : List (Nat × Nat × List Nat) := []
def tFNew1 : Tree := (.call 0 (.ex (.var 0) :: .ex (.var 1) :: .ex (.lit 1) :: va [3, 4, 5, 6, 7, 8, 9, 10, 11, 12] ([.ex (.lit (-1)), .ex (.lit 0)])) (.br (.cmp .lss (.var 14) (.lit 0))
 (Tree.fail "fold")
 (.and (.rng (.and (.and (.ext (.mk 5 (va [0, 1, 3, 4, 5, 6, 7, 8, 9, 10, 11, 12, 13] ([.ex (.lit 1), .ex (.lit (-1)), .ex (.lit 0), .ex (.lit 0), .ex (.lit 0), .ex (.lit 0), .ex (.lit 0), .ex (.lit 0), .ex (.lit 0), .ex (.lit 0)]))) (.ret [.var 16])) .ok) .ok)) .ok)))
theorem rFNew1 : runCtr { (cxQn Tryz.prog) with hints := hsFNew1 } 20 (cFNewH 1) [] [(0, [5,6,7,8,9,10,11,12,13,14])] = tFNew1 := by
  dsimp only [tFNew1, va, List.map_cons, List.map_nil, List.cons_append, List.nil_append]
  kernel_rfl

def hsFNew2 : List (Nat × Nat × List Nat) := []
def tFNew2 : Tree := (.call 0 (.ex (.var 0) :: .ex (.var 1) :: .ex (.lit 2) :: va [3, 4, 5, 6, 7, 8, 9, 10, 11, 12] ([.ex (.lit (-1)), .ex (.lit 0)])) (.br (.cmp .lss (.var 14) (.lit 0))
 (Tree.fail "fold")
 (.and (.rng (.and (.and (.ext (.mk 7 (va [0, 1, 3, 4, 5, 6, 7, 8, 9, 10, 11, 12, 13] ([.ex (.lit 1), .ex (.lit (-1)), .ex (.lit 0), .ex (.lit 0), .ex (.lit 0), .ex (.lit 0), .ex (.lit 0), .ex (.lit 0), .ex (.lit 0), .ex (.lit 0), .ex (.lit 0), .ex (.lit 0), .ex (.lit 0), .ex (.lit 0)]))) (.ret [.var 16])) .ok) .ok)) .ok)))
theorem rFNew2 : runCtr { (cxQn Tryz.prog) with hints := hsFNew2 } 20 (cFNewH 2) [] [(0, [5,6,7,8,9,10,11,12,13,14])] = tFNew2 := by
  dsimp only [tFNew2, va, List.map_cons, List.map_nil, List.cons_append, List.nil_append]
  kernel_rfl

def hsFNew3 : List (Nat × Nat × List Nat) := []
def tFNew3 : Tree := (.call 0 (.ex (.var 0) :: .ex (.var 1) :: .ex (.lit 3) :: va [3, 4, 5, 6, 7, 8, 9, 10, 11, 12] ([.ex (.lit (-1)), .ex (.lit 0)])) (.br (.cmp .lss (.var 14) (.lit 0))
 (Tree.fail "fold")
 (.and (.rng (.and (.and (.ext (.mk 10 (va [0, 1, 3, 4, 5, 6, 7, 8, 9, 10, 11, 12, 13] ([.ex (.lit 1), .ex (.lit (-1)), .ex (.lit 0), .ex (.lit 0), .ex (.lit 0), .ex (.lit 0), .ex (.lit 0), .ex (.lit 0), .ex (.lit 0), .ex (.lit 0), .ex (.lit 0), .ex (.lit 0), .ex (.lit 0), .ex (.lit 0), .ex (.lit 0), .ex (.lit 0), .ex (.lit 0), .ex (.lit 0)]))) (.ret [.var 16])) .ok) .ok)) .ok)))
theorem rFNew3 : runCtr { (cxQn Tryz.prog) with hints := hsFNew3 } 20 (cFNewH 3) [] [(0, [5,6,7,8,9,10,11,12,13,14])] = tFNew3 := by
  dsimp only [tFNew3, va, List.map_cons, List.map_nil, List.cons_append, List.nil_append]
  kernel_rfl

def hsFNew4 : List (Nat × Nat × List Nat) := []
def tFNew4 : Tree := (.call 0 (.ex (.var 0) :: .ex (.var 1) :: .ex (.lit 4) :: va [3, 4, 5, 6, 7, 8, 9, 10, 11, 12] ([.ex (.lit (-1)), .ex (.lit 0)])) (.br (.cmp .lss (.var 14) (.lit 0))
 (Tree.fail "fold")
 (.and (.rng (.and (.and (.ext (.mk 14 (va [0, 1, 3, 4, 5, 6, 7, 8, 9, 10, 11, 12, 13] ([.ex (.lit 1), .ex (.lit (-1)), .ex (.lit 0), .ex (.lit 0), .ex (.lit 0), .ex (.lit 0), .ex (.lit 0), .ex (.lit 0), .ex (.lit 0), .ex (.lit 0), .ex (.lit 0), .ex (.lit 0), .ex (.lit 0), .ex (.lit 0), .ex (.lit 0), .ex (.lit 0), .ex (.lit 0), .ex (.lit 0), .ex (.lit 0), .ex (.lit 0), .ex (.lit 0), .ex (.lit 0)]))) (.ret [.var 16])) .ok) .ok)) .ok)))
theorem rFNew4 : runCtr { (cxQn Tryz.prog) with hints := hsFNew4 } 20 (cFNewH 4) [] [(0, [5,6,7,8,9,10,11,12,13,14])] = tFNew4 := by
  dsimp only [tFNew4, va, List.map_cons, List.map_nil, List.cons_append, List.nil_append]
  kernel_rfl

def hsQFNew : List (Nat × Nat × List Nat) := []
def tQFNew : Tree := (.call 0 (va [0, 1, 2, 3, 4, 5, 6, 7, 8, 9, 10, 11, 12] []) (.br (.var 14)
 (.and (.need (.cmp .leq (.lit 0) (.var 2)) (.need (.cmp .leq (.var 2) (.lit 1000000)) (.ext (.repl (.var 2) (.lit 0)) (.and (.need (.cmp .leq (.lit 0) (.var 2)) (.need (.cmp .leq (.var 2) (.lit 1000000)) (.ext (.repl (.var 2) (.lit 0)) (.and (.need (.cmp .leq (.lit 0) (.var 2)) (.need (.cmp .leq (.var 2) (.lit 1000000)) (.ext (.repl (.var 2) (.lit 0)) (.and (.ext (.mk 16 (va [0, 1, 2, 3, 4, 5, 6, 7, 8, 9, 10, 11, 12, 13] ([.ex (.lit 1), .ex (.bin .sub .i64 (.var 2) (.lit 1)), .ex (.lit (-1)), .ex (.lit 0), .ex (.lit 0), .ex (.lit 0), .ex (.lit 0), .var 15, .var 16, .var 17]))) (.ret [.var 18])) .ok)))) .ok))))
 (.and (.need (.cmp .leq (.lit 0) (.var 2)) (.need (.cmp .leq (.var 2) (.lit 1000000)) (.ext (.repl (.var 2) (.lit 0)) (.and (.need (.cmp .leq (.lit 0) (.var 2)) (.need (.cmp .leq (.var 2) (.lit 1000000)) (.ext (.repl (.var 2) (.lit 0)) (.and (.ext (.mk 16 (va [0, 1, 2, 3, 4, 5, 6, 7, 8, 9, 10, 11, 12, 13] ([.ex (.lit 1), .ex (.bin .sub .i64 (.var 2) (.lit 1)), .ex (.lit (-1)), .ex (.lit 0), .ex (.lit 0), .ex (.lit 0), .ex (.lit 0), .var 15, .var 17, .var 16]))) (.ret [.var 18])) .ok)))) .ok)))) .ok)))))
 (.and (.need (.cmp .leq (.lit 0) (.var 2)) (.need (.cmp .leq (.var 2) (.lit 1000000)) (.ext (.repl (.var 2) (.lit 0)) (.and (.need (.cmp .leq (.lit 0) (.var 2)) (.need (.cmp .leq (.var 2) (.lit 1000000)) (.ext (.repl (.var 2) (.lit 0)) (.and (.need (.cmp .leq (.lit 0) (.var 2)) (.need (.cmp .leq (.var 2) (.lit 1000000)) (.ext (.repl (.var 2) (.lit 0)) (.and (.ext (.mk 16 (va [0, 1, 2, 3, 4, 5, 6, 7, 8, 9, 10, 11, 12, 13] ([.ex (.lit 1), .ex (.bin .sub .i64 (.var 2) (.lit 1)), .ex (.lit (-1)), .ex (.lit 0), .ex (.lit 0), .ex (.lit 0), .ex (.lit 0), .var 16, .var 15, .var 17]))) (.ret [.var 18])) .ok)))) .ok))))
 (.and (.need (.cmp .leq (.lit 0) (.var 2)) (.need (.cmp .leq (.var 2) (.lit 1000000)) (.ext (.repl (.var 2) (.lit 0)) (.and (.need (.cmp .leq (.lit 0) (.var 2)) (.need (.cmp .leq (.var 2) (.lit 1000000)) (.ext (.repl (.var 2) (.lit 0)) (.and (.ext (.mk 16 (va [0, 1, 2, 3, 4, 5, 6, 7, 8, 9, 10, 11, 12, 13] ([.ex (.lit 1), .ex (.bin .sub .i64 (.var 2) (.lit 1)), .ex (.lit (-1)), .ex (.lit 0), .ex (.lit 0), .ex (.lit 0), .ex (.lit 0), .var 17, .var 15, .var 16]))) (.ret [.var 18])) .ok)))) .ok)))) .ok)))))
 (.and (.need (.cmp .leq (.lit 0) (.var 2)) (.need (.cmp .leq (.var 2) (.lit 1000000)) (.ext (.repl (.var 2) (.lit 0)) (.and (.need (.cmp .leq (.lit 0) (.var 2)) (.need (.cmp .leq (.var 2) (.lit 1000000)) (.ext (.repl (.var 2) (.lit 0)) (.and (.need (.cmp .leq (.lit 0) (.var 2)) (.need (.cmp .leq (.var 2) (.lit 1000000)) (.ext (.repl (.var 2) (.lit 0)) (.and (.ext (.mk 16 (va [0, 1, 2, 3, 4, 5, 6, 7, 8, 9, 10, 11, 12, 13] ([.ex (.lit 1), .ex (.bin .sub .i64 (.var 2) (.lit 1)), .ex (.lit (-1)), .ex (.lit 0), .ex (.lit 0), .ex (.lit 0), .ex (.lit 0), .var 16, .var 17, .var 15]))) (.ret [.var 18])) .ok)))) .ok))))
 (.and (.need (.cmp .leq (.lit 0) (.var 2)) (.need (.cmp .leq (.var 2) (.lit 1000000)) (.ext (.repl (.var 2) (.lit 0)) (.and (.need (.cmp .leq (.lit 0) (.var 2)) (.need (.cmp .leq (.var 2) (.lit 1000000)) (.ext (.repl (.var 2) (.lit 0)) (.and (.ext (.mk 16 (va [0, 1, 2, 3, 4, 5, 6, 7, 8, 9, 10, 11, 12, 13] ([.ex (.lit 1), .ex (.bin .sub .i64 (.var 2) (.lit 1)), .ex (.lit (-1)), .ex (.lit 0), .ex (.lit 0), .ex (.lit 0), .ex (.lit 0), .var 17, .var 16, .var 15]))) (.ret [.var 18])) .ok)))) .ok)))) .ok))))) .ok)))
 (Tree.fail "fold")))
theorem rQFNew : runCtr { (cxQq Tryz.prog) with hints := hsQFNew } 20 cQFNew [] [(0, [16])] = tQFNew := by
  dsimp only [tQFNew, va, List.map_cons, List.map_nil, List.cons_append, List.nil_append]
  kernel_rfl

def hsSameInts : List (Nat × Nat × List Nat) := []
def tSameIntsL0 : Tree := (.br (.var 7)
 (.need (.cmp .leq (.lit 0) (.var 2)) (.br (.cmp .lss (.var 6) (.var 2))
 (.need (.cmp .leq (.lit 0) (.var 6)) (.need (.cmp .lss (.var 6) (.var 2)) (.need (.cmp .lss (.var 6) (.len 0)) (.need (.cmp .leq (.lit 0) (.var 6)) (.need (.cmp .lss (.var 6) (.len 0)) (.need (.cmp .leq (.lit 0) (.var 6)) (.need (.cmp .lss (.var 6) (.var 4)) (.need (.cmp .lss (.var 6) (.len 1)) (.need (.cmp .leq (.lit 0) (.var 6)) (.need (.cmp .lss (.var 6) (.len 1)) (.back 0 6 [.ex (.bin .add .i64 (.var 6) (.lit 1)), .bx (.cmp .eql (.nth 0 (.var 6)) (.nth 1 (.var 6)))])))))))))))
 (.ret [.bx (.var 7)])))
 (.ret [.bx (.var 7)]))
def tSameInts : Tree := (.need (.cmp .leq (.lit 0) (.var 2)) (.need (.cmp .leq (.lit 0) (.var 4)) (.loop 0 6 [.ex (.lit 0), .bx (.cmp .eql (.var 2) (.var 4))] tSameIntsL0)))
theorem rSameInts : runCtr { (cxQw Tryz.prog) with hints := hsSameInts } 20 cSameInts [] [] = tSameInts := by kernel_rfl

def hsCopyI : List (Nat × Nat × List Nat) := []
def tCopyI : Tree := (.need (.cmp .leq (.lit 0) (.var 1)) (.need (.cmp .leq (.var 1) (.len 0)) (.need (.cmp .leq (.var 1) (.lit 1000000)) (.br (.cmp .eql (.var 1) (.lit 0))
 (.ext (.lst []) (.ret [.var 3, .ex (.lit 0), .ex (.lit 0)]))
 (.grow 0 (.var 1) (.ret [.var 3, .ex (.var 1), .ex (.var 4)]))))))
theorem rCopyI : runCtr { (cxQi Tryz.prog) with hints := hsCopyI } 20 cCopyI [] [] = tCopyI := by kernel_rfl

def hsCopyW : List (Nat × Nat × List Nat) := []
def tCopyW : Tree := (.need (.cmp .leq (.lit 0) (.var 1)) (.need (.cmp .leq (.var 1) (.len 0)) (.need (.cmp .leq (.var 1) (.lit 1000000)) (.br (.cmp .eql (.var 1) (.lit 0))
 (.ext (.lst []) (.ret [.var 3, .ex (.lit 0), .ex (.lit 0)]))
 (.grow 0 (.var 1) (.ret [.var 3, .ex (.var 1), .ex (.var 4)]))))))
theorem rCopyW : runCtr { (cxQi Tryz.prog) with hints := hsCopyW } 20 cCopyW [] [] = tCopyW := by kernel_rfl

def hsOverI : List (Nat × Nat × List Nat) := []
def tOverIL0 : Tree := (.need (.cmp .leq (.lit 0) (.var 1)) (.br (.cmp .lss (.var 3) (.var 1))
 (.need (.cmp .leq (.lit 0) (.var 3)) (.need (.cmp .lss (.var 3) (.var 1)) (.need (.cmp .lss (.var 3) (.len 4)) (.need (.cmp .leq (.lit 0) (.var 3)) (.need (.cmp .lss (.var 3) (.len 4)) (.ext (.setl 4 (.var 3) (.lit (-77))) (.back 0 3 [.ex (.bin .add .i64 (.var 3) (.lit 1)), .var 5])))))))
 (.ret [.var 4])))
def tOverI : Tree := (.loop 0 3 [.ex (.lit 0), .var 0] tOverIL0)
theorem rOverI : runCtr { (cxQo Tryz.prog) with hints := hsOverI } 20 cOverI [] [] = tOverI := by kernel_rfl

def hsOverW : List (Nat × Nat × List Nat) := []
def tOverWL0 : Tree := (.need (.cmp .leq (.lit 0) (.var 1)) (.br (.cmp .lss (.var 3) (.var 1))
 (.need (.cmp .leq (.lit 0) (.var 3)) (.need (.cmp .lss (.var 3) (.var 1)) (.need (.cmp .lss (.var 3) (.len 4)) (.need (.cmp .leq (.lit 0) (.var 3)) (.need (.cmp .lss (.var 3) (.len 4)) (.ext (.setl 4 (.var 3) (.lit 7777777)) (.back 1 3 [.ex (.bin .add .i64 (.var 3) (.lit 1)), .var 5])))))))
 (.ret [.var 4])))
def tOverW : Tree := (.loop 1 3 [.ex (.lit 0), .var 0] tOverWL0)
theorem rOverW : runCtr { (cxQo Tryz.prog) with hints := hsOverW } 20 cOverW [] [] = tOverW := by kernel_rfl

def hsFPreds : List (Nat × Nat × List Nat) := []
def tFPreds : Tree := (.and (.opn 0 5 (.br (.cmp .eql (.var 14) (.lit 9))
 (.app none (.lit 0) (.var 21) (.ext (.mk 5 (va [1, 2, 3, 4, 5, 6, 7, 8, 9, 10, 11, 12, 13, 14, 15, 16, 17, 18, 19, 20, 21, 22, 23] [])) (.ret [.var 26, .var 24, .ex (.lit 1), .ex (.var 25)])))
 (.ext (.lst []) (.ext (.mk 5 (va [1, 2, 3, 4, 5, 6, 7, 8, 9, 10, 11, 12, 13, 14, 15, 16, 17, 18, 19, 20, 21, 22, 23] [])) (.ret [.var 25, .var 24, .ex (.lit 0), .ex (.lit 0)])))))
 (.and (.opn 0 6 (.br (.cmp .eql (.var 14) (.lit 9))
 (.app none (.lit 0) (.var 21) (.need (.cmp .leq (.lit 1) (.var 29)) (.need (.cmp .leq (.var 29) (.len 28)) (.need (.cmp .leq (.len 28) (.var 29)) (.app (some 28) (.lit 1) (.var 25) (.ext (.mk 6 (va [1, 2, 3, 4, 5, 6, 7, 8, 9, 10, 11, 12, 13, 14, 15, 16, 17, 18, 19, 20, 21, 22, 23, 24, 25, 26, 27] [])) (.ret [.var 32, .var 30, .ex (.lit 2), .ex (.var 31)])))))))
 (.ext (.lst []) (.ext (.mk 6 (va [1, 2, 3, 4, 5, 6, 7, 8, 9, 10, 11, 12, 13, 14, 15, 16, 17, 18, 19, 20, 21, 22, 23, 24, 25, 26, 27] [])) (.ret [.var 29, .var 28, .ex (.lit 0), .ex (.lit 0)])))))
 (.and (.opn 0 7 (.br (.cmp .eql (.var 14) (.lit 9))
 (.app none (.lit 0) (.var 21) (.need (.cmp .leq (.lit 1) (.var 29)) (.need (.cmp .leq (.var 29) (.len 28)) (.need (.cmp .leq (.len 28) (.var 29)) (.app (some 28) (.lit 1) (.var 25) (.ext (.mk 7 (va [1, 2, 3, 4, 5, 6, 7, 8, 9, 10, 11, 12, 13, 14, 15, 16, 17, 18, 19, 20, 21, 22, 23, 24, 25, 26, 27] [])) (.ret [.var 32, .var 30, .ex (.lit 2), .ex (.var 31)])))))))
 (.ext (.lst []) (.ext (.mk 7 (va [1, 2, 3, 4, 5, 6, 7, 8, 9, 10, 11, 12, 13, 14, 15, 16, 17, 18, 19, 20, 21, 22, 23, 24, 25, 26, 27] [])) (.ret [.var 29, .var 28, .ex (.lit 0), .ex (.lit 0)])))))
 (.and (.opn 0 8 (.br (.cmp .eql (.var 14) (.lit 9))
 (.app none (.lit 0) (.var 21) (.need (.cmp .leq (.lit 1) (.var 33)) (.need (.cmp .leq (.var 33) (.len 32)) (.need (.cmp .leq (.len 32) (.var 33)) (.app (some 32) (.lit 1) (.var 25) (.need (.cmp .leq (.lit 2) (.var 35)) (.need (.cmp .leq (.var 35) (.len 34)) (.need (.cmp .leq (.len 34) (.var 35)) (.app (some 34) (.lit 2) (.var 29) (.ext (.mk 8 (va [1, 2, 3, 4, 5, 6, 7, 8, 9, 10, 11, 12, 13, 14, 15, 16, 17, 18, 19, 20, 21, 22, 23, 24, 25, 26, 27, 28, 29, 30, 31] [])) (.ret [.var 38, .var 36, .ex (.lit 3), .ex (.var 37)])))))))))))
 (.ext (.lst []) (.ext (.mk 8 (va [1, 2, 3, 4, 5, 6, 7, 8, 9, 10, 11, 12, 13, 14, 15, 16, 17, 18, 19, 20, 21, 22, 23, 24, 25, 26, 27, 28, 29, 30, 31] [])) (.ret [.var 33, .var 32, .ex (.lit 0), .ex (.lit 0)])))))
 (.and (.opn 0 9 (.br (.cmp .eql (.var 14) (.lit 9))
 (.app none (.lit 0) (.var 21) (.need (.cmp .leq (.lit 1) (.var 33)) (.need (.cmp .leq (.var 33) (.len 32)) (.need (.cmp .leq (.len 32) (.var 33)) (.app (some 32) (.lit 1) (.var 25) (.need (.cmp .leq (.lit 2) (.var 35)) (.need (.cmp .leq (.var 35) (.len 34)) (.need (.cmp .leq (.len 34) (.var 35)) (.app (some 34) (.lit 2) (.var 29) (.ext (.mk 9 (va [1, 2, 3, 4, 5, 6, 7, 8, 9, 10, 11, 12, 13, 14, 15, 16, 17, 18, 19, 20, 21, 22, 23, 24, 25, 26, 27, 28, 29, 30, 31] [])) (.ret [.var 38, .var 36, .ex (.lit 3), .ex (.var 37)])))))))))))
 (.ext (.lst []) (.ext (.mk 9 (va [1, 2, 3, 4, 5, 6, 7, 8, 9, 10, 11, 12, 13, 14, 15, 16, 17, 18, 19, 20, 21, 22, 23, 24, 25, 26, 27, 28, 29, 30, 31] [])) (.ret [.var 33, .var 32, .ex (.lit 0), .ex (.lit 0)])))))
 (.and (.opn 0 10 (.br (.cmp .eql (.var 14) (.lit 9))
 (.app none (.lit 0) (.var 21) (.need (.cmp .leq (.lit 1) (.var 33)) (.need (.cmp .leq (.var 33) (.len 32)) (.need (.cmp .leq (.len 32) (.var 33)) (.app (some 32) (.lit 1) (.var 25) (.need (.cmp .leq (.lit 2) (.var 35)) (.need (.cmp .leq (.var 35) (.len 34)) (.need (.cmp .leq (.len 34) (.var 35)) (.app (some 34) (.lit 2) (.var 29) (.ext (.mk 10 (va [1, 2, 3, 4, 5, 6, 7, 8, 9, 10, 11, 12, 13, 14, 15, 16, 17, 18, 19, 20, 21, 22, 23, 24, 25, 26, 27, 28, 29, 30, 31] [])) (.ret [.var 38, .var 36, .ex (.lit 3), .ex (.var 37)])))))))))))
 (.ext (.lst []) (.ext (.mk 10 (va [1, 2, 3, 4, 5, 6, 7, 8, 9, 10, 11, 12, 13, 14, 15, 16, 17, 18, 19, 20, 21, 22, 23, 24, 25, 26, 27, 28, 29, 30, 31] [])) (.ret [.var 33, .var 32, .ex (.lit 0), .ex (.lit 0)])))))
 (.and (.opn 0 11 (.br (.cmp .eql (.var 14) (.lit 9))
 (.app none (.lit 0) (.var 21) (.need (.cmp .leq (.lit 1) (.var 37)) (.need (.cmp .leq (.var 37) (.len 36)) (.need (.cmp .leq (.len 36) (.var 37)) (.app (some 36) (.lit 1) (.var 25) (.need (.cmp .leq (.lit 2) (.var 39)) (.need (.cmp .leq (.var 39) (.len 38)) (.need (.cmp .leq (.len 38) (.var 39)) (.app (some 38) (.lit 2) (.var 29) (.need (.cmp .leq (.lit 3) (.var 41)) (.need (.cmp .leq (.var 41) (.len 40)) (.need (.cmp .leq (.len 40) (.var 41)) (.app (some 40) (.lit 3) (.var 33) (.ext (.mk 11 (va [1, 2, 3, 4, 5, 6, 7, 8, 9, 10, 11, 12, 13, 14, 15, 16, 17, 18, 19, 20, 21, 22, 23, 24, 25, 26, 27, 28, 29, 30, 31, 32, 33, 34, 35] [])) (.ret [.var 44, .var 42, .ex (.lit 4), .ex (.var 43)])))))))))))))))
 (.ext (.lst []) (.ext (.mk 11 (va [1, 2, 3, 4, 5, 6, 7, 8, 9, 10, 11, 12, 13, 14, 15, 16, 17, 18, 19, 20, 21, 22, 23, 24, 25, 26, 27, 28, 29, 30, 31, 32, 33, 34, 35] [])) (.ret [.var 37, .var 36, .ex (.lit 0), .ex (.lit 0)])))))
 (.and (.opn 0 12 (.br (.cmp .eql (.var 14) (.lit 9))
 (.app none (.lit 0) (.var 21) (.need (.cmp .leq (.lit 1) (.var 37)) (.need (.cmp .leq (.var 37) (.len 36)) (.need (.cmp .leq (.len 36) (.var 37)) (.app (some 36) (.lit 1) (.var 25) (.need (.cmp .leq (.lit 2) (.var 39)) (.need (.cmp .leq (.var 39) (.len 38)) (.need (.cmp .leq (.len 38) (.var 39)) (.app (some 38) (.lit 2) (.var 29) (.need (.cmp .leq (.lit 3) (.var 41)) (.need (.cmp .leq (.var 41) (.len 40)) (.need (.cmp .leq (.len 40) (.var 41)) (.app (some 40) (.lit 3) (.var 33) (.ext (.mk 12 (va [1, 2, 3, 4, 5, 6, 7, 8, 9, 10, 11, 12, 13, 14, 15, 16, 17, 18, 19, 20, 21, 22, 23, 24, 25, 26, 27, 28, 29, 30, 31, 32, 33, 34, 35] [])) (.ret [.var 44, .var 42, .ex (.lit 4), .ex (.var 43)])))))))))))))))
 (.ext (.lst []) (.ext (.mk 12 (va [1, 2, 3, 4, 5, 6, 7, 8, 9, 10, 11, 12, 13, 14, 15, 16, 17, 18, 19, 20, 21, 22, 23, 24, 25, 26, 27, 28, 29, 30, 31, 32, 33, 34, 35] [])) (.ret [.var 37, .var 36, .ex (.lit 0), .ex (.lit 0)])))))
 (.and (.opn 0 13 (.br (.cmp .eql (.var 14) (.lit 9))
 (.app none (.lit 0) (.var 21) (.need (.cmp .leq (.lit 1) (.var 37)) (.need (.cmp .leq (.var 37) (.len 36)) (.need (.cmp .leq (.len 36) (.var 37)) (.app (some 36) (.lit 1) (.var 25) (.need (.cmp .leq (.lit 2) (.var 39)) (.need (.cmp .leq (.var 39) (.len 38)) (.need (.cmp .leq (.len 38) (.var 39)) (.app (some 38) (.lit 2) (.var 29) (.need (.cmp .leq (.lit 3) (.var 41)) (.need (.cmp .leq (.var 41) (.len 40)) (.need (.cmp .leq (.len 40) (.var 41)) (.app (some 40) (.lit 3) (.var 33) (.ext (.mk 13 (va [1, 2, 3, 4, 5, 6, 7, 8, 9, 10, 11, 12, 13, 14, 15, 16, 17, 18, 19, 20, 21, 22, 23, 24, 25, 26, 27, 28, 29, 30, 31, 32, 33, 34, 35] [])) (.ret [.var 44, .var 42, .ex (.lit 4), .ex (.var 43)])))))))))))))))
 (.ext (.lst []) (.ext (.mk 13 (va [1, 2, 3, 4, 5, 6, 7, 8, 9, 10, 11, 12, 13, 14, 15, 16, 17, 18, 19, 20, 21, 22, 23, 24, 25, 26, 27, 28, 29, 30, 31, 32, 33, 34, 35] [])) (.ret [.var 37, .var 36, .ex (.lit 0), .ex (.lit 0)])))))
 (.and (.opn 0 14 (.br (.cmp .eql (.var 14) (.lit 9))
 (.app none (.lit 0) (.var 21) (.need (.cmp .leq (.lit 1) (.var 37)) (.need (.cmp .leq (.var 37) (.len 36)) (.need (.cmp .leq (.len 36) (.var 37)) (.app (some 36) (.lit 1) (.var 25) (.need (.cmp .leq (.lit 2) (.var 39)) (.need (.cmp .leq (.var 39) (.len 38)) (.need (.cmp .leq (.len 38) (.var 39)) (.app (some 38) (.lit 2) (.var 29) (.need (.cmp .leq (.lit 3) (.var 41)) (.need (.cmp .leq (.var 41) (.len 40)) (.need (.cmp .leq (.len 40) (.var 41)) (.app (some 40) (.lit 3) (.var 33) (.ext (.mk 14 (va [1, 2, 3, 4, 5, 6, 7, 8, 9, 10, 11, 12, 13, 14, 15, 16, 17, 18, 19, 20, 21, 22, 23, 24, 25, 26, 27, 28, 29, 30, 31, 32, 33, 34, 35] [])) (.ret [.var 44, .var 42, .ex (.lit 4), .ex (.var 43)])))))))))))))))
 (.ext (.lst []) (.ext (.mk 14 (va [1, 2, 3, 4, 5, 6, 7, 8, 9, 10, 11, 12, 13, 14, 15, 16, 17, 18, 19, 20, 21, 22, 23, 24, 25, 26, 27, 28, 29, 30, 31, 32, 33, 34, 35] [])) (.ret [.var 37, .var 36, .ex (.lit 0), .ex (.lit 0)])))))
 (.nomore 0 [5, 6, 7, 8, 9, 10, 11, 12, 13, 14])))))))))))
theorem rFPreds : runCtr { (cxQi Tryz.prog) with hints := hsFPreds } 20 cFPreds [(0, [5,6,7,8,9,10,11,12,13,14])] [(0, [5,6,7,8,9,10,11,12,13,14])] = tFPreds := by
  dsimp only [tFPreds, va, List.map_cons, List.map_nil, List.cons_append, List.nil_append]
  kernel_rfl

def hsFSuccs : List (Nat × Nat × List Nat) := []
def tFSuccs : Tree := (.and (.opn 0 5 (.br (.cmp .eql (.var 14) (.lit 9))
 (.app none (.lit 0) (.var 23) (.ext (.mk 5 (va [1, 2, 3, 4, 5, 6, 7, 8, 9, 10, 11, 12, 13, 14, 15, 16, 17, 18, 19, 20, 21, 22, 23] [])) (.ret [.var 26, .var 24, .ex (.lit 1), .ex (.var 25)])))
 (.ext (.lst []) (.ext (.mk 5 (va [1, 2, 3, 4, 5, 6, 7, 8, 9, 10, 11, 12, 13, 14, 15, 16, 17, 18, 19, 20, 21, 22, 23] [])) (.ret [.var 25, .var 24, .ex (.lit 0), .ex (.lit 0)])))))
 (.and (.opn 0 6 (.br (.cmp .eql (.var 14) (.lit 9))
 (.app none (.lit 0) (.var 23) (.need (.cmp .leq (.lit 1) (.var 29)) (.need (.cmp .leq (.var 29) (.len 28)) (.need (.cmp .leq (.len 28) (.var 29)) (.app (some 28) (.lit 1) (.var 27) (.ext (.mk 6 (va [1, 2, 3, 4, 5, 6, 7, 8, 9, 10, 11, 12, 13, 14, 15, 16, 17, 18, 19, 20, 21, 22, 23, 24, 25, 26, 27] [])) (.ret [.var 32, .var 30, .ex (.lit 2), .ex (.var 31)])))))))
 (.ext (.lst []) (.ext (.mk 6 (va [1, 2, 3, 4, 5, 6, 7, 8, 9, 10, 11, 12, 13, 14, 15, 16, 17, 18, 19, 20, 21, 22, 23, 24, 25, 26, 27] [])) (.ret [.var 29, .var 28, .ex (.lit 0), .ex (.lit 0)])))))
 (.and (.opn 0 7 (.br (.cmp .eql (.var 14) (.lit 9))
 (.app none (.lit 0) (.var 23) (.need (.cmp .leq (.lit 1) (.var 29)) (.need (.cmp .leq (.var 29) (.len 28)) (.need (.cmp .leq (.len 28) (.var 29)) (.app (some 28) (.lit 1) (.var 27) (.ext (.mk 7 (va [1, 2, 3, 4, 5, 6, 7, 8, 9, 10, 11, 12, 13, 14, 15, 16, 17, 18, 19, 20, 21, 22, 23, 24, 25, 26, 27] [])) (.ret [.var 32, .var 30, .ex (.lit 2), .ex (.var 31)])))))))
 (.ext (.lst []) (.ext (.mk 7 (va [1, 2, 3, 4, 5, 6, 7, 8, 9, 10, 11, 12, 13, 14, 15, 16, 17, 18, 19, 20, 21, 22, 23, 24, 25, 26, 27] [])) (.ret [.var 29, .var 28, .ex (.lit 0), .ex (.lit 0)])))))
 (.and (.opn 0 8 (.br (.cmp .eql (.var 14) (.lit 9))
 (.app none (.lit 0) (.var 23) (.need (.cmp .leq (.lit 1) (.var 33)) (.need (.cmp .leq (.var 33) (.len 32)) (.need (.cmp .leq (.len 32) (.var 33)) (.app (some 32) (.lit 1) (.var 27) (.need (.cmp .leq (.lit 2) (.var 35)) (.need (.cmp .leq (.var 35) (.len 34)) (.need (.cmp .leq (.len 34) (.var 35)) (.app (some 34) (.lit 2) (.var 31) (.ext (.mk 8 (va [1, 2, 3, 4, 5, 6, 7, 8, 9, 10, 11, 12, 13, 14, 15, 16, 17, 18, 19, 20, 21, 22, 23, 24, 25, 26, 27, 28, 29, 30, 31] [])) (.ret [.var 38, .var 36, .ex (.lit 3), .ex (.var 37)])))))))))))
 (.ext (.lst []) (.ext (.mk 8 (va [1, 2, 3, 4, 5, 6, 7, 8, 9, 10, 11, 12, 13, 14, 15, 16, 17, 18, 19, 20, 21, 22, 23, 24, 25, 26, 27, 28, 29, 30, 31] [])) (.ret [.var 33, .var 32, .ex (.lit 0), .ex (.lit 0)])))))
 (.and (.opn 0 9 (.br (.cmp .eql (.var 14) (.lit 9))
 (.app none (.lit 0) (.var 23) (.need (.cmp .leq (.lit 1) (.var 33)) (.need (.cmp .leq (.var 33) (.len 32)) (.need (.cmp .leq (.len 32) (.var 33)) (.app (some 32) (.lit 1) (.var 27) (.need (.cmp .leq (.lit 2) (.var 35)) (.need (.cmp .leq (.var 35) (.len 34)) (.need (.cmp .leq (.len 34) (.var 35)) (.app (some 34) (.lit 2) (.var 31) (.ext (.mk 9 (va [1, 2, 3, 4, 5, 6, 7, 8, 9, 10, 11, 12, 13, 14, 15, 16, 17, 18, 19, 20, 21, 22, 23, 24, 25, 26, 27, 28, 29, 30, 31] [])) (.ret [.var 38, .var 36, .ex (.lit 3), .ex (.var 37)])))))))))))
 (.ext (.lst []) (.ext (.mk 9 (va [1, 2, 3, 4, 5, 6, 7, 8, 9, 10, 11, 12, 13, 14, 15, 16, 17, 18, 19, 20, 21, 22, 23, 24, 25, 26, 27, 28, 29, 30, 31] [])) (.ret [.var 33, .var 32, .ex (.lit 0), .ex (.lit 0)])))))
 (.and (.opn 0 10 (.br (.cmp .eql (.var 14) (.lit 9))
 (.app none (.lit 0) (.var 23) (.need (.cmp .leq (.lit 1) (.var 33)) (.need (.cmp .leq (.var 33) (.len 32)) (.need (.cmp .leq (.len 32) (.var 33)) (.app (some 32) (.lit 1) (.var 27) (.need (.cmp .leq (.lit 2) (.var 35)) (.need (.cmp .leq (.var 35) (.len 34)) (.need (.cmp .leq (.len 34) (.var 35)) (.app (some 34) (.lit 2) (.var 31) (.ext (.mk 10 (va [1, 2, 3, 4, 5, 6, 7, 8, 9, 10, 11, 12, 13, 14, 15, 16, 17, 18, 19, 20, 21, 22, 23, 24, 25, 26, 27, 28, 29, 30, 31] [])) (.ret [.var 38, .var 36, .ex (.lit 3), .ex (.var 37)])))))))))))
 (.ext (.lst []) (.ext (.mk 10 (va [1, 2, 3, 4, 5, 6, 7, 8, 9, 10, 11, 12, 13, 14, 15, 16, 17, 18, 19, 20, 21, 22, 23, 24, 25, 26, 27, 28, 29, 30, 31] [])) (.ret [.var 33, .var 32, .ex (.lit 0), .ex (.lit 0)])))))
 (.and (.opn 0 11 (.br (.cmp .eql (.var 14) (.lit 9))
 (.app none (.lit 0) (.var 23) (.need (.cmp .leq (.lit 1) (.var 37)) (.need (.cmp .leq (.var 37) (.len 36)) (.need (.cmp .leq (.len 36) (.var 37)) (.app (some 36) (.lit 1) (.var 27) (.need (.cmp .leq (.lit 2) (.var 39)) (.need (.cmp .leq (.var 39) (.len 38)) (.need (.cmp .leq (.len 38) (.var 39)) (.app (some 38) (.lit 2) (.var 31) (.need (.cmp .leq (.lit 3) (.var 41)) (.need (.cmp .leq (.var 41) (.len 40)) (.need (.cmp .leq (.len 40) (.var 41)) (.app (some 40) (.lit 3) (.var 35) (.ext (.mk 11 (va [1, 2, 3, 4, 5, 6, 7, 8, 9, 10, 11, 12, 13, 14, 15, 16, 17, 18, 19, 20, 21, 22, 23, 24, 25, 26, 27, 28, 29, 30, 31, 32, 33, 34, 35] [])) (.ret [.var 44, .var 42, .ex (.lit 4), .ex (.var 43)])))))))))))))))
 (.ext (.lst []) (.ext (.mk 11 (va [1, 2, 3, 4, 5, 6, 7, 8, 9, 10, 11, 12, 13, 14, 15, 16, 17, 18, 19, 20, 21, 22, 23, 24, 25, 26, 27, 28, 29, 30, 31, 32, 33, 34, 35] [])) (.ret [.var 37, .var 36, .ex (.lit 0), .ex (.lit 0)])))))
 (.and (.opn 0 12 (.br (.cmp .eql (.var 14) (.lit 9))
 (.app none (.lit 0) (.var 23) (.need (.cmp .leq (.lit 1) (.var 37)) (.need (.cmp .leq (.var 37) (.len 36)) (.need (.cmp .leq (.len 36) (.var 37)) (.app (some 36) (.lit 1) (.var 27) (.need (.cmp .leq (.lit 2) (.var 39)) (.need (.cmp .leq (.var 39) (.len 38)) (.need (.cmp .leq (.len 38) (.var 39)) (.app (some 38) (.lit 2) (.var 31) (.need (.cmp .leq (.lit 3) (.var 41)) (.need (.cmp .leq (.var 41) (.len 40)) (.need (.cmp .leq (.len 40) (.var 41)) (.app (some 40) (.lit 3) (.var 35) (.ext (.mk 12 (va [1, 2, 3, 4, 5, 6, 7, 8, 9, 10, 11, 12, 13, 14, 15, 16, 17, 18, 19, 20, 21, 22, 23, 24, 25, 26, 27, 28, 29, 30, 31, 32, 33, 34, 35] [])) (.ret [.var 44, .var 42, .ex (.lit 4), .ex (.var 43)])))))))))))))))
 (.ext (.lst []) (.ext (.mk 12 (va [1, 2, 3, 4, 5, 6, 7, 8, 9, 10, 11, 12, 13, 14, 15, 16, 17, 18, 19, 20, 21, 22, 23, 24, 25, 26, 27, 28, 29, 30, 31, 32, 33, 34, 35] [])) (.ret [.var 37, .var 36, .ex (.lit 0), .ex (.lit 0)])))))
 (.and (.opn 0 13 (.br (.cmp .eql (.var 14) (.lit 9))
 (.app none (.lit 0) (.var 23) (.need (.cmp .leq (.lit 1) (.var 37)) (.need (.cmp .leq (.var 37) (.len 36)) (.need (.cmp .leq (.len 36) (.var 37)) (.app (some 36) (.lit 1) (.var 27) (.need (.cmp .leq (.lit 2) (.var 39)) (.need (.cmp .leq (.var 39) (.len 38)) (.need (.cmp .leq (.len 38) (.var 39)) (.app (some 38) (.lit 2) (.var 31) (.need (.cmp .leq (.lit 3) (.var 41)) (.need (.cmp .leq (.var 41) (.len 40)) (.need (.cmp .leq (.len 40) (.var 41)) (.app (some 40) (.lit 3) (.var 35) (.ext (.mk 13 (va [1, 2, 3, 4, 5, 6, 7, 8, 9, 10, 11, 12, 13, 14, 15, 16, 17, 18, 19, 20, 21, 22, 23, 24, 25, 26, 27, 28, 29, 30, 31, 32, 33, 34, 35] [])) (.ret [.var 44, .var 42, .ex (.lit 4), .ex (.var 43)])))))))))))))))
 (.ext (.lst []) (.ext (.mk 13 (va [1, 2, 3, 4, 5, 6, 7, 8, 9, 10, 11, 12, 13, 14, 15, 16, 17, 18, 19, 20, 21, 22, 23, 24, 25, 26, 27, 28, 29, 30, 31, 32, 33, 34, 35] [])) (.ret [.var 37, .var 36, .ex (.lit 0), .ex (.lit 0)])))))
 (.and (.opn 0 14 (.br (.cmp .eql (.var 14) (.lit 9))
 (.app none (.lit 0) (.var 23) (.need (.cmp .leq (.lit 1) (.var 37)) (.need (.cmp .leq (.var 37) (.len 36)) (.need (.cmp .leq (.len 36) (.var 37)) (.app (some 36) (.lit 1) (.var 27) (.need (.cmp .leq (.lit 2) (.var 39)) (.need (.cmp .leq (.var 39) (.len 38)) (.need (.cmp .leq (.len 38) (.var 39)) (.app (some 38) (.lit 2) (.var 31) (.need (.cmp .leq (.lit 3) (.var 41)) (.need (.cmp .leq (.var 41) (.len 40)) (.need (.cmp .leq (.len 40) (.var 41)) (.app (some 40) (.lit 3) (.var 35) (.ext (.mk 14 (va [1, 2, 3, 4, 5, 6, 7, 8, 9, 10, 11, 12, 13, 14, 15, 16, 17, 18, 19, 20, 21, 22, 23, 24, 25, 26, 27, 28, 29, 30, 31, 32, 33, 34, 35] [])) (.ret [.var 44, .var 42, .ex (.lit 4), .ex (.var 43)])))))))))))))))
 (.ext (.lst []) (.ext (.mk 14 (va [1, 2, 3, 4, 5, 6, 7, 8, 9, 10, 11, 12, 13, 14, 15, 16, 17, 18, 19, 20, 21, 22, 23, 24, 25, 26, 27, 28, 29, 30, 31, 32, 33, 34, 35] [])) (.ret [.var 37, .var 36, .ex (.lit 0), .ex (.lit 0)])))))
 (.nomore 0 [5, 6, 7, 8, 9, 10, 11, 12, 13, 14])))))))))))
theorem rFSuccs : runCtr { (cxQi Tryz.prog) with hints := hsFSuccs } 20 cFSuccs [(0, [5,6,7,8,9,10,11,12,13,14])] [(0, [5,6,7,8,9,10,11,12,13,14])] = tFSuccs := by
  dsimp only [tFSuccs, va, List.map_cons, List.map_nil, List.cons_append, List.nil_append]
  kernel_rfl

def hsFKnown : List (Nat × Nat × List Nat) := []
def tFKnown : Tree := (.and (.opn 0 5 (.br (.cmp .eql (.var 14) (.lit 9))
 (.app none (.lit 0) (.var 22) (.ext (.mk 5 (va [1, 2, 3, 4, 5, 6, 7, 8, 9, 10, 11, 12, 13, 14, 15, 16, 17, 18, 19, 20, 21, 22, 23] [])) (.ret [.var 26, .var 24, .ex (.lit 1), .ex (.var 25)])))
 (.ext (.lst []) (.ext (.mk 5 (va [1, 2, 3, 4, 5, 6, 7, 8, 9, 10, 11, 12, 13, 14, 15, 16, 17, 18, 19, 20, 21, 22, 23] [])) (.ret [.var 25, .var 24, .ex (.lit 0), .ex (.lit 0)])))))
 (.and (.opn 0 6 (.br (.cmp .eql (.var 14) (.lit 9))
 (.app none (.lit 0) (.var 22) (.need (.cmp .leq (.lit 1) (.var 29)) (.need (.cmp .leq (.var 29) (.len 28)) (.need (.cmp .leq (.len 28) (.var 29)) (.app (some 28) (.lit 1) (.var 26) (.ext (.mk 6 (va [1, 2, 3, 4, 5, 6, 7, 8, 9, 10, 11, 12, 13, 14, 15, 16, 17, 18, 19, 20, 21, 22, 23, 24, 25, 26, 27] [])) (.ret [.var 32, .var 30, .ex (.lit 2), .ex (.var 31)])))))))
 (.ext (.lst []) (.ext (.mk 6 (va [1, 2, 3, 4, 5, 6, 7, 8, 9, 10, 11, 12, 13, 14, 15, 16, 17, 18, 19, 20, 21, 22, 23, 24, 25, 26, 27] [])) (.ret [.var 29, .var 28, .ex (.lit 0), .ex (.lit 0)])))))
 (.and (.opn 0 7 (.br (.cmp .eql (.var 14) (.lit 9))
 (.app none (.lit 0) (.var 22) (.need (.cmp .leq (.lit 1) (.var 29)) (.need (.cmp .leq (.var 29) (.len 28)) (.need (.cmp .leq (.len 28) (.var 29)) (.app (some 28) (.lit 1) (.var 26) (.ext (.mk 7 (va [1, 2, 3, 4, 5, 6, 7, 8, 9, 10, 11, 12, 13, 14, 15, 16, 17, 18, 19, 20, 21, 22, 23, 24, 25, 26, 27] [])) (.ret [.var 32, .var 30, .ex (.lit 2), .ex (.var 31)])))))))
 (.ext (.lst []) (.ext (.mk 7 (va [1, 2, 3, 4, 5, 6, 7, 8, 9, 10, 11, 12, 13, 14, 15, 16, 17, 18, 19, 20, 21, 22, 23, 24, 25, 26, 27] [])) (.ret [.var 29, .var 28, .ex (.lit 0), .ex (.lit 0)])))))
 (.and (.opn 0 8 (.br (.cmp .eql (.var 14) (.lit 9))
 (.app none (.lit 0) (.var 22) (.need (.cmp .leq (.lit 1) (.var 33)) (.need (.cmp .leq (.var 33) (.len 32)) (.need (.cmp .leq (.len 32) (.var 33)) (.app (some 32) (.lit 1) (.var 26) (.need (.cmp .leq (.lit 2) (.var 35)) (.need (.cmp .leq (.var 35) (.len 34)) (.need (.cmp .leq (.len 34) (.var 35)) (.app (some 34) (.lit 2) (.var 30) (.ext (.mk 8 (va [1, 2, 3, 4, 5, 6, 7, 8, 9, 10, 11, 12, 13, 14, 15, 16, 17, 18, 19, 20, 21, 22, 23, 24, 25, 26, 27, 28, 29, 30, 31] [])) (.ret [.var 38, .var 36, .ex (.lit 3), .ex (.var 37)])))))))))))
 (.ext (.lst []) (.ext (.mk 8 (va [1, 2, 3, 4, 5, 6, 7, 8, 9, 10, 11, 12, 13, 14, 15, 16, 17, 18, 19, 20, 21, 22, 23, 24, 25, 26, 27, 28, 29, 30, 31] [])) (.ret [.var 33, .var 32, .ex (.lit 0), .ex (.lit 0)])))))
 (.and (.opn 0 9 (.br (.cmp .eql (.var 14) (.lit 9))
 (.app none (.lit 0) (.var 22) (.need (.cmp .leq (.lit 1) (.var 33)) (.need (.cmp .leq (.var 33) (.len 32)) (.need (.cmp .leq (.len 32) (.var 33)) (.app (some 32) (.lit 1) (.var 26) (.need (.cmp .leq (.lit 2) (.var 35)) (.need (.cmp .leq (.var 35) (.len 34)) (.need (.cmp .leq (.len 34) (.var 35)) (.app (some 34) (.lit 2) (.var 30) (.ext (.mk 9 (va [1, 2, 3, 4, 5, 6, 7, 8, 9, 10, 11, 12, 13, 14, 15, 16, 17, 18, 19, 20, 21, 22, 23, 24, 25, 26, 27, 28, 29, 30, 31] [])) (.ret [.var 38, .var 36, .ex (.lit 3), .ex (.var 37)])))))))))))
 (.ext (.lst []) (.ext (.mk 9 (va [1, 2, 3, 4, 5, 6, 7, 8, 9, 10, 11, 12, 13, 14, 15, 16, 17, 18, 19, 20, 21, 22, 23, 24, 25, 26, 27, 28, 29, 30, 31] [])) (.ret [.var 33, .var 32, .ex (.lit 0), .ex (.lit 0)])))))
 (.and (.opn 0 10 (.br (.cmp .eql (.var 14) (.lit 9))
 (.app none (.lit 0) (.var 22) (.need (.cmp .leq (.lit 1) (.var 33)) (.need (.cmp .leq (.var 33) (.len 32)) (.need (.cmp .leq (.len 32) (.var 33)) (.app (some 32) (.lit 1) (.var 26) (.need (.cmp .leq (.lit 2) (.var 35)) (.need (.cmp .leq (.var 35) (.len 34)) (.need (.cmp .leq (.len 34) (.var 35)) (.app (some 34) (.lit 2) (.var 30) (.ext (.mk 10 (va [1, 2, 3, 4, 5, 6, 7, 8, 9, 10, 11, 12, 13, 14, 15, 16, 17, 18, 19, 20, 21, 22, 23, 24, 25, 26, 27, 28, 29, 30, 31] [])) (.ret [.var 38, .var 36, .ex (.lit 3), .ex (.var 37)])))))))))))
 (.ext (.lst []) (.ext (.mk 10 (va [1, 2, 3, 4, 5, 6, 7, 8, 9, 10, 11, 12, 13, 14, 15, 16, 17, 18, 19, 20, 21, 22, 23, 24, 25, 26, 27, 28, 29, 30, 31] [])) (.ret [.var 33, .var 32, .ex (.lit 0), .ex (.lit 0)])))))
 (.and (.opn 0 11 (.br (.cmp .eql (.var 14) (.lit 9))
 (.app none (.lit 0) (.var 22) (.need (.cmp .leq (.lit 1) (.var 37)) (.need (.cmp .leq (.var 37) (.len 36)) (.need (.cmp .leq (.len 36) (.var 37)) (.app (some 36) (.lit 1) (.var 26) (.need (.cmp .leq (.lit 2) (.var 39)) (.need (.cmp .leq (.var 39) (.len 38)) (.need (.cmp .leq (.len 38) (.var 39)) (.app (some 38) (.lit 2) (.var 30) (.need (.cmp .leq (.lit 3) (.var 41)) (.need (.cmp .leq (.var 41) (.len 40)) (.need (.cmp .leq (.len 40) (.var 41)) (.app (some 40) (.lit 3) (.var 34) (.ext (.mk 11 (va [1, 2, 3, 4, 5, 6, 7, 8, 9, 10, 11, 12, 13, 14, 15, 16, 17, 18, 19, 20, 21, 22, 23, 24, 25, 26, 27, 28, 29, 30, 31, 32, 33, 34, 35] [])) (.ret [.var 44, .var 42, .ex (.lit 4), .ex (.var 43)])))))))))))))))
 (.ext (.lst []) (.ext (.mk 11 (va [1, 2, 3, 4, 5, 6, 7, 8, 9, 10, 11, 12, 13, 14, 15, 16, 17, 18, 19, 20, 21, 22, 23, 24, 25, 26, 27, 28, 29, 30, 31, 32, 33, 34, 35] [])) (.ret [.var 37, .var 36, .ex (.lit 0), .ex (.lit 0)])))))
 (.and (.opn 0 12 (.br (.cmp .eql (.var 14) (.lit 9))
 (.app none (.lit 0) (.var 22) (.need (.cmp .leq (.lit 1) (.var 37)) (.need (.cmp .leq (.var 37) (.len 36)) (.need (.cmp .leq (.len 36) (.var 37)) (.app (some 36) (.lit 1) (.var 26) (.need (.cmp .leq (.lit 2) (.var 39)) (.need (.cmp .leq (.var 39) (.len 38)) (.need (.cmp .leq (.len 38) (.var 39)) (.app (some 38) (.lit 2) (.var 30) (.need (.cmp .leq (.lit 3) (.var 41)) (.need (.cmp .leq (.var 41) (.len 40)) (.need (.cmp .leq (.len 40) (.var 41)) (.app (some 40) (.lit 3) (.var 34) (.ext (.mk 12 (va [1, 2, 3, 4, 5, 6, 7, 8, 9, 10, 11, 12, 13, 14, 15, 16, 17, 18, 19, 20, 21, 22, 23, 24, 25, 26, 27, 28, 29, 30, 31, 32, 33, 34, 35] [])) (.ret [.var 44, .var 42, .ex (.lit 4), .ex (.var 43)])))))))))))))))
 (.ext (.lst []) (.ext (.mk 12 (va [1, 2, 3, 4, 5, 6, 7, 8, 9, 10, 11, 12, 13, 14, 15, 16, 17, 18, 19, 20, 21, 22, 23, 24, 25, 26, 27, 28, 29, 30, 31, 32, 33, 34, 35] [])) (.ret [.var 37, .var 36, .ex (.lit 0), .ex (.lit 0)])))))
 (.and (.opn 0 13 (.br (.cmp .eql (.var 14) (.lit 9))
 (.app none (.lit 0) (.var 22) (.need (.cmp .leq (.lit 1) (.var 37)) (.need (.cmp .leq (.var 37) (.len 36)) (.need (.cmp .leq (.len 36) (.var 37)) (.app (some 36) (.lit 1) (.var 26) (.need (.cmp .leq (.lit 2) (.var 39)) (.need (.cmp .leq (.var 39) (.len 38)) (.need (.cmp .leq (.len 38) (.var 39)) (.app (some 38) (.lit 2) (.var 30) (.need (.cmp .leq (.lit 3) (.var 41)) (.need (.cmp .leq (.var 41) (.len 40)) (.need (.cmp .leq (.len 40) (.var 41)) (.app (some 40) (.lit 3) (.var 34) (.ext (.mk 13 (va [1, 2, 3, 4, 5, 6, 7, 8, 9, 10, 11, 12, 13, 14, 15, 16, 17, 18, 19, 20, 21, 22, 23, 24, 25, 26, 27, 28, 29, 30, 31, 32, 33, 34, 35] [])) (.ret [.var 44, .var 42, .ex (.lit 4), .ex (.var 43)])))))))))))))))
 (.ext (.lst []) (.ext (.mk 13 (va [1, 2, 3, 4, 5, 6, 7, 8, 9, 10, 11, 12, 13, 14, 15, 16, 17, 18, 19, 20, 21, 22, 23, 24, 25, 26, 27, 28, 29, 30, 31, 32, 33, 34, 35] [])) (.ret [.var 37, .var 36, .ex (.lit 0), .ex (.lit 0)])))))
 (.and (.opn 0 14 (.br (.cmp .eql (.var 14) (.lit 9))
 (.app none (.lit 0) (.var 22) (.need (.cmp .leq (.lit 1) (.var 37)) (.need (.cmp .leq (.var 37) (.len 36)) (.need (.cmp .leq (.len 36) (.var 37)) (.app (some 36) (.lit 1) (.var 26) (.need (.cmp .leq (.lit 2) (.var 39)) (.need (.cmp .leq (.var 39) (.len 38)) (.need (.cmp .leq (.len 38) (.var 39)) (.app (some 38) (.lit 2) (.var 30) (.need (.cmp .leq (.lit 3) (.var 41)) (.need (.cmp .leq (.var 41) (.len 40)) (.need (.cmp .leq (.len 40) (.var 41)) (.app (some 40) (.lit 3) (.var 34) (.ext (.mk 14 (va [1, 2, 3, 4, 5, 6, 7, 8, 9, 10, 11, 12, 13, 14, 15, 16, 17, 18, 19, 20, 21, 22, 23, 24, 25, 26, 27, 28, 29, 30, 31, 32, 33, 34, 35] [])) (.ret [.var 44, .var 42, .ex (.lit 4), .ex (.var 43)])))))))))))))))
 (.ext (.lst []) (.ext (.mk 14 (va [1, 2, 3, 4, 5, 6, 7, 8, 9, 10, 11, 12, 13, 14, 15, 16, 17, 18, 19, 20, 21, 22, 23, 24, 25, 26, 27, 28, 29, 30, 31, 32, 33, 34, 35] [])) (.ret [.var 37, .var 36, .ex (.lit 0), .ex (.lit 0)])))))
 (.nomore 0 [5, 6, 7, 8, 9, 10, 11, 12, 13, 14])))))))))))
theorem rFKnown : runCtr { (cxQi Tryz.prog) with hints := hsFKnown } 20 cFKnown [(0, [5,6,7,8,9,10,11,12,13,14])] [(0, [5,6,7,8,9,10,11,12,13,14])] = tFKnown := by
  dsimp only [tFKnown, va, List.map_cons, List.map_nil, List.cons_append, List.nil_append]
  kernel_rfl

def hsQPreds : List (Nat × Nat × List Nat) := []
def tQPreds : Tree := (.and (.opn 0 16 (.br (.cmp .eql (.var 15) (.lit 9))
 (.callm 0 [.var 22, .ex (.var 3), .ex (.var 3)] (.ext (.mk 16 (va [1, 2, 3, 4, 5, 6, 7, 8, 9, 10, 11, 12, 13, 14, 15, 16, 17, 18, 19, 20, 21] ([.var 22, .var 23, .var 24]))) (.ret [.var 28, .var 25, .ex (.var 26), .ex (.var 27)])))
 (.ext (.lst []) (.ext (.mk 16 (va [1, 2, 3, 4, 5, 6, 7, 8, 9, 10, 11, 12, 13, 14, 15, 16, 17, 18, 19, 20, 21] ([.var 22, .var 23, .var 24]))) (.ret [.var 26, .var 25, .ex (.lit 0), .ex (.lit 0)])))))
 (.nomore 0 [16]))
theorem rQPreds : runCtr { (cxQp Tryz.prog) with hints := hsQPreds } 20 cQPreds [(0, [16])] [(0, [16])] = tQPreds := by
  dsimp only [tQPreds, va, List.map_cons, List.map_nil, List.cons_append, List.nil_append]
  kernel_rfl

def hsQSuccs : List (Nat × Nat × List Nat) := []
def tQSuccs : Tree := (.and (.opn 0 16 (.br (.cmp .eql (.var 15) (.lit 9))
 (.callm 1 [.var 23, .ex (.var 3), .ex (.var 3)] (.ext (.mk 16 (va [1, 2, 3, 4, 5, 6, 7, 8, 9, 10, 11, 12, 13, 14, 15, 16, 17, 18, 19, 20, 21] ([.var 22, .var 23, .var 24]))) (.ret [.var 28, .var 25, .ex (.var 26), .ex (.var 27)])))
 (.ext (.lst []) (.ext (.mk 16 (va [1, 2, 3, 4, 5, 6, 7, 8, 9, 10, 11, 12, 13, 14, 15, 16, 17, 18, 19, 20, 21] ([.var 22, .var 23, .var 24]))) (.ret [.var 26, .var 25, .ex (.lit 0), .ex (.lit 0)])))))
 (.nomore 0 [16]))
theorem rQSuccs : runCtr { (cxQp Tryz.prog) with hints := hsQSuccs } 20 cQSuccs [(0, [16])] [(0, [16])] = tQSuccs := by
  dsimp only [tQSuccs, va, List.map_cons, List.map_nil, List.cons_append, List.nil_append]
  kernel_rfl

def hsQKnown : List (Nat × Nat × List Nat) := []
def tQKnown : Tree := (.and (.opn 0 16 (.br (.cmp .eql (.var 15) (.lit 9))
 (.callm 1 [.var 24, .ex (.var 3), .ex (.var 3)] (.ext (.mk 16 (va [1, 2, 3, 4, 5, 6, 7, 8, 9, 10, 11, 12, 13, 14, 15, 16, 17, 18, 19, 20, 21] ([.var 22, .var 23, .var 24]))) (.ret [.var 28, .var 25, .ex (.var 26), .ex (.var 27)])))
 (.ext (.lst []) (.ext (.mk 16 (va [1, 2, 3, 4, 5, 6, 7, 8, 9, 10, 11, 12, 13, 14, 15, 16, 17, 18, 19, 20, 21] ([.var 22, .var 23, .var 24]))) (.ret [.var 26, .var 25, .ex (.lit 0), .ex (.lit 0)])))))
 (.nomore 0 [16]))
theorem rQKnown : runCtr { (cxQp Tryz.prog) with hints := hsQKnown } 20 cQKnown [(0, [16])] [(0, [16])] = tQKnown := by
  dsimp only [tQKnown, va, List.map_cons, List.map_nil, List.cons_append, List.nil_append]
  kernel_rfl

def hsFBy : List (Nat × Nat × List Nat) := []
def tFBy : Tree := (.and (.opn 0 5 (.ext (.mk 5 (va [1, 2, 3, 4, 5, 6, 7, 8, 9, 10, 11, 12, 13, 14, 15, 16, 17, 18, 19, 20, 21, 22, 23] [])) (.ret [.var 24, .ex (.var 19)])))
 (.and (.opn 0 6 (.ext (.mk 6 (va [1, 2, 3, 4, 5, 6, 7, 8, 9, 10, 11, 12, 13, 14, 15, 16, 17, 18, 19, 20, 21, 22, 23, 24, 25, 26, 27] [])) (.ret [.var 28, .ex (.var 19)])))
 (.and (.opn 0 7 (.ext (.mk 7 (va [1, 2, 3, 4, 5, 6, 7, 8, 9, 10, 11, 12, 13, 14, 15, 16, 17, 18, 19, 20, 21, 22, 23, 24, 25, 26, 27] [])) (.ret [.var 28, .ex (.var 19)])))
 (.and (.opn 0 8 (.ext (.mk 8 (va [1, 2, 3, 4, 5, 6, 7, 8, 9, 10, 11, 12, 13, 14, 15, 16, 17, 18, 19, 20, 21, 22, 23, 24, 25, 26, 27, 28, 29, 30, 31] [])) (.ret [.var 32, .ex (.var 19)])))
 (.and (.opn 0 9 (.ext (.mk 9 (va [1, 2, 3, 4, 5, 6, 7, 8, 9, 10, 11, 12, 13, 14, 15, 16, 17, 18, 19, 20, 21, 22, 23, 24, 25, 26, 27, 28, 29, 30, 31] [])) (.ret [.var 32, .ex (.var 19)])))
 (.and (.opn 0 10 (.ext (.mk 10 (va [1, 2, 3, 4, 5, 6, 7, 8, 9, 10, 11, 12, 13, 14, 15, 16, 17, 18, 19, 20, 21, 22, 23, 24, 25, 26, 27, 28, 29, 30, 31] [])) (.ret [.var 32, .ex (.var 19)])))
 (.and (.opn 0 11 (.ext (.mk 11 (va [1, 2, 3, 4, 5, 6, 7, 8, 9, 10, 11, 12, 13, 14, 15, 16, 17, 18, 19, 20, 21, 22, 23, 24, 25, 26, 27, 28, 29, 30, 31, 32, 33, 34, 35] [])) (.ret [.var 36, .ex (.var 19)])))
 (.and (.opn 0 12 (.ext (.mk 12 (va [1, 2, 3, 4, 5, 6, 7, 8, 9, 10, 11, 12, 13, 14, 15, 16, 17, 18, 19, 20, 21, 22, 23, 24, 25, 26, 27, 28, 29, 30, 31, 32, 33, 34, 35] [])) (.ret [.var 36, .ex (.var 19)])))
 (.and (.opn 0 13 (.ext (.mk 13 (va [1, 2, 3, 4, 5, 6, 7, 8, 9, 10, 11, 12, 13, 14, 15, 16, 17, 18, 19, 20, 21, 22, 23, 24, 25, 26, 27, 28, 29, 30, 31, 32, 33, 34, 35] [])) (.ret [.var 36, .ex (.var 19)])))
 (.and (.opn 0 14 (.ext (.mk 14 (va [1, 2, 3, 4, 5, 6, 7, 8, 9, 10, 11, 12, 13, 14, 15, 16, 17, 18, 19, 20, 21, 22, 23, 24, 25, 26, 27, 28, 29, 30, 31, 32, 33, 34, 35] [])) (.ret [.var 36, .ex (.var 19)])))
 (.nomore 0 [5, 6, 7, 8, 9, 10, 11, 12, 13, 14])))))))))))
theorem rFBy : runCtr { (cxQi Tryz.prog) with hints := hsFBy } 20 cFBy [(0, [5,6,7,8,9,10,11,12,13,14])] [(0, [5,6,7,8,9,10,11,12,13,14])] = tFBy := by
  dsimp only [tFBy, va, List.map_cons, List.map_nil, List.cons_append, List.nil_append]
  kernel_rfl

def hsFErr : List (Nat × Nat × List Nat) := []
def tFErr : Tree := (.and (.opn 0 5 (.br (.cmp .eql (.var 14) (.lit 9))
 (.ext (.mk 5 (va [1, 2, 3, 4, 5, 6, 7, 8, 9, 10, 11, 12, 13, 14, 15, 16, 17, 18, 19, 20, 21, 22, 23] [])) (.ret [.var 24, .ex (.lit 0)]))
 (.ext (.mk 5 (va [1, 2, 3, 4, 5, 6, 7, 8, 9, 10, 11, 12, 13, 14, 15, 16, 17, 18, 19, 20, 21, 22, 23] [])) (.ret [.var 24, .ex (.lit 14)]))))
 (.and (.opn 0 6 (.br (.cmp .eql (.var 14) (.lit 9))
 (.ext (.mk 6 (va [1, 2, 3, 4, 5, 6, 7, 8, 9, 10, 11, 12, 13, 14, 15, 16, 17, 18, 19, 20, 21, 22, 23, 24, 25, 26, 27] [])) (.ret [.var 28, .ex (.lit 0)]))
 (.ext (.mk 6 (va [1, 2, 3, 4, 5, 6, 7, 8, 9, 10, 11, 12, 13, 14, 15, 16, 17, 18, 19, 20, 21, 22, 23, 24, 25, 26, 27] [])) (.ret [.var 28, .ex (.lit 14)]))))
 (.and (.opn 0 7 (.br (.cmp .eql (.var 14) (.lit 9))
 (.ext (.mk 7 (va [1, 2, 3, 4, 5, 6, 7, 8, 9, 10, 11, 12, 13, 14, 15, 16, 17, 18, 19, 20, 21, 22, 23, 24, 25, 26, 27] [])) (.ret [.var 28, .ex (.lit 0)]))
 (.ext (.mk 7 (va [1, 2, 3, 4, 5, 6, 7, 8, 9, 10, 11, 12, 13, 14, 15, 16, 17, 18, 19, 20, 21, 22, 23, 24, 25, 26, 27] [])) (.ret [.var 28, .ex (.lit 14)]))))
 (.and (.opn 0 8 (.br (.cmp .eql (.var 14) (.lit 9))
 (.ext (.mk 8 (va [1, 2, 3, 4, 5, 6, 7, 8, 9, 10, 11, 12, 13, 14, 15, 16, 17, 18, 19, 20, 21, 22, 23, 24, 25, 26, 27, 28, 29, 30, 31] [])) (.ret [.var 32, .ex (.lit 0)]))
 (.ext (.mk 8 (va [1, 2, 3, 4, 5, 6, 7, 8, 9, 10, 11, 12, 13, 14, 15, 16, 17, 18, 19, 20, 21, 22, 23, 24, 25, 26, 27, 28, 29, 30, 31] [])) (.ret [.var 32, .ex (.lit 14)]))))
 (.and (.opn 0 9 (.br (.cmp .eql (.var 14) (.lit 9))
 (.ext (.mk 9 (va [1, 2, 3, 4, 5, 6, 7, 8, 9, 10, 11, 12, 13, 14, 15, 16, 17, 18, 19, 20, 21, 22, 23, 24, 25, 26, 27, 28, 29, 30, 31] [])) (.ret [.var 32, .ex (.lit 0)]))
 (.ext (.mk 9 (va [1, 2, 3, 4, 5, 6, 7, 8, 9, 10, 11, 12, 13, 14, 15, 16, 17, 18, 19, 20, 21, 22, 23, 24, 25, 26, 27, 28, 29, 30, 31] [])) (.ret [.var 32, .ex (.lit 14)]))))
 (.and (.opn 0 10 (.br (.cmp .eql (.var 14) (.lit 9))
 (.ext (.mk 10 (va [1, 2, 3, 4, 5, 6, 7, 8, 9, 10, 11, 12, 13, 14, 15, 16, 17, 18, 19, 20, 21, 22, 23, 24, 25, 26, 27, 28, 29, 30, 31] [])) (.ret [.var 32, .ex (.lit 0)]))
 (.ext (.mk 10 (va [1, 2, 3, 4, 5, 6, 7, 8, 9, 10, 11, 12, 13, 14, 15, 16, 17, 18, 19, 20, 21, 22, 23, 24, 25, 26, 27, 28, 29, 30, 31] [])) (.ret [.var 32, .ex (.lit 14)]))))
 (.and (.opn 0 11 (.br (.cmp .eql (.var 14) (.lit 9))
 (.ext (.mk 11 (va [1, 2, 3, 4, 5, 6, 7, 8, 9, 10, 11, 12, 13, 14, 15, 16, 17, 18, 19, 20, 21, 22, 23, 24, 25, 26, 27, 28, 29, 30, 31, 32, 33, 34, 35] [])) (.ret [.var 36, .ex (.lit 0)]))
 (.ext (.mk 11 (va [1, 2, 3, 4, 5, 6, 7, 8, 9, 10, 11, 12, 13, 14, 15, 16, 17, 18, 19, 20, 21, 22, 23, 24, 25, 26, 27, 28, 29, 30, 31, 32, 33, 34, 35] [])) (.ret [.var 36, .ex (.lit 14)]))))
 (.and (.opn 0 12 (.br (.cmp .eql (.var 14) (.lit 9))
 (.ext (.mk 12 (va [1, 2, 3, 4, 5, 6, 7, 8, 9, 10, 11, 12, 13, 14, 15, 16, 17, 18, 19, 20, 21, 22, 23, 24, 25, 26, 27, 28, 29, 30, 31, 32, 33, 34, 35] [])) (.ret [.var 36, .ex (.lit 0)]))
 (.ext (.mk 12 (va [1, 2, 3, 4, 5, 6, 7, 8, 9, 10, 11, 12, 13, 14, 15, 16, 17, 18, 19, 20, 21, 22, 23, 24, 25, 26, 27, 28, 29, 30, 31, 32, 33, 34, 35] [])) (.ret [.var 36, .ex (.lit 14)]))))
 (.and (.opn 0 13 (.br (.cmp .eql (.var 14) (.lit 9))
 (.ext (.mk 13 (va [1, 2, 3, 4, 5, 6, 7, 8, 9, 10, 11, 12, 13, 14, 15, 16, 17, 18, 19, 20, 21, 22, 23, 24, 25, 26, 27, 28, 29, 30, 31, 32, 33, 34, 35] [])) (.ret [.var 36, .ex (.lit 0)]))
 (.ext (.mk 13 (va [1, 2, 3, 4, 5, 6, 7, 8, 9, 10, 11, 12, 13, 14, 15, 16, 17, 18, 19, 20, 21, 22, 23, 24, 25, 26, 27, 28, 29, 30, 31, 32, 33, 34, 35] [])) (.ret [.var 36, .ex (.lit 14)]))))
 (.and (.opn 0 14 (.br (.cmp .eql (.var 14) (.lit 9))
 (.ext (.mk 14 (va [1, 2, 3, 4, 5, 6, 7, 8, 9, 10, 11, 12, 13, 14, 15, 16, 17, 18, 19, 20, 21, 22, 23, 24, 25, 26, 27, 28, 29, 30, 31, 32, 33, 34, 35] [])) (.ret [.var 36, .ex (.lit 0)]))
 (.ext (.mk 14 (va [1, 2, 3, 4, 5, 6, 7, 8, 9, 10, 11, 12, 13, 14, 15, 16, 17, 18, 19, 20, 21, 22, 23, 24, 25, 26, 27, 28, 29, 30, 31, 32, 33, 34, 35] [])) (.ret [.var 36, .ex (.lit 14)]))))
 (.nomore 0 [5, 6, 7, 8, 9, 10, 11, 12, 13, 14])))))))))))
theorem rFErr : runCtr { (cxQi Tryz.prog) with hints := hsFErr } 20 cFErr [(0, [5,6,7,8,9,10,11,12,13,14])] [(0, [5,6,7,8,9,10,11,12,13,14])] = tFErr := by
  dsimp only [tFErr, va, List.map_cons, List.map_nil, List.cons_append, List.nil_append]
  kernel_rfl

def hsQBy : List (Nat × Nat × List Nat) := []
def tQBy : Tree := (.and (.opn 0 16 (.ext (.mk 16 (va [1, 2, 3, 4, 5, 6, 7, 8, 9, 10, 11, 12, 13, 14, 15, 16, 17, 18, 19, 20, 21] ([.var 22, .var 23, .var 24]))) (.ret [.var 25, .ex (.var 21)])))
 (.nomore 0 [16]))
theorem rQBy : runCtr { (cxQi Tryz.prog) with hints := hsQBy } 20 cQBy [(0, [16])] [(0, [16])] = tQBy := by
  dsimp only [tQBy, va, List.map_cons, List.map_nil, List.cons_append, List.nil_append]
  kernel_rfl

def hsQErr : List (Nat × Nat × List Nat) := []
def tQErr : Tree := (.and (.opn 0 16 (.br (.cmp .eql (.var 15) (.lit 9))
 (.ext (.mk 16 (va [1, 2, 3, 4, 5, 6, 7, 8, 9, 10, 11, 12, 13, 14, 15, 16, 17, 18, 19, 20, 21] ([.var 22, .var 23, .var 24]))) (.ret [.var 25, .ex (.lit 0)]))
 (.ext (.mk 16 (va [1, 2, 3, 4, 5, 6, 7, 8, 9, 10, 11, 12, 13, 14, 15, 16, 17, 18, 19, 20, 21] ([.var 22, .var 23, .var 24]))) (.ret [.var 25, .ex (.lit 14)]))))
 (.nomore 0 [16]))
theorem rQErr : runCtr { (cxQi Tryz.prog) with hints := hsQErr } 20 cQErr [(0, [16])] [(0, [16])] = tQErr := by
  dsimp only [tQErr, va, List.map_cons, List.map_nil, List.cons_append, List.nil_append]
  kernel_rfl

def hsAlike : List (Nat × Nat × List Nat) := []
def tAlike : Tree := (.br (.isnil 1)
 (.ret [.var 0, .var 1, .bx (.lit true)])
 (.and (.callm 2 [.var 0] (.and (.callm 3 [.var 2] (.and (.callm 4 [.var 6] (.and (.callm 5 [.var 1] (.and (.call 0 (.var 3 :: .var 15 :: va [4, 5, 16, 17] []) (.br (.var 18)
 (.and (.callm 6 [.var 14] (.and (.call 1 (.var 7 :: .var 20 :: va [8, 9, 21, 22] []) (.br (.var 23)
 (.and (.callm 7 [.var 19] (.and (.call 1 (.var 11 :: .var 25 :: va [12, 13, 26, 27] []) (.br (.var 28)
 (.and (.call 8 [.var 10] (.and (.call 9 [.var 24] (.br (.cmp .eql (.var 30) (.var 32))
 (.and (.call 10 [.var 29] (.and (.call 11 [.var 31] (.call 12 [.var 3, .ex (.var 4), .ex (.var 5)] (.call 13 [.var 7, .ex (.var 8), .ex (.var 9)] (.call 13 [.var 11, .ex (.var 12), .ex (.var 13)] (.br (.cmp .eql (.var 34) (.var 36))
 (.and (.callm 2 [.var 33] (.and (.callm 5 [.var 35] (.and (.call 0 (.var 41 :: .var 45 :: va [42, 43, 46, 47] []) (.br (.var 48)
 (.and (.callm 3 [.var 40] (.and (.callm 6 [.var 44] (.and (.call 1 (.var 50 :: .var 54 :: va [51, 52, 55, 56] []) (.br (.var 57)
 (.and (.callm 4 [.var 49] (.and (.callm 7 [.var 53] (.and (.call 1 (.var 59 :: .var 63 :: va [60, 61, 64, 65] []) (.ret [.var 58, .var 62, .bx (.var 66)])) .ok)) .ok)) .ok)
 (.ret [.var 49, .var 53, .bx (.lit false)]))) .ok)) .ok)) .ok)
 (.ret [.var 40, .var 44, .bx (.lit false)]))) .ok)) .ok)) .ok)
 (.ret [.var 33, .var 35, .bx (.lit false)])))))) .ok)) .ok)
 (.call 12 [.var 3, .ex (.var 4), .ex (.var 5)] (.call 13 [.var 7, .ex (.var 8), .ex (.var 9)] (.call 13 [.var 11, .ex (.var 12), .ex (.var 13)] (.ret [.var 29, .var 31, .bx (.lit false)])))))) .ok)) .ok)
 (.call 12 [.var 3, .ex (.var 4), .ex (.var 5)] (.call 13 [.var 7, .ex (.var 8), .ex (.var 9)] (.call 13 [.var 11, .ex (.var 12), .ex (.var 13)] (.ret [.var 10, .var 24, .bx (.lit false)])))))) .ok)) .ok)
 (.call 12 [.var 3, .ex (.var 4), .ex (.var 5)] (.call 13 [.var 7, .ex (.var 8), .ex (.var 9)] (.call 13 [.var 11, .ex (.var 12), .ex (.var 13)] (.ret [.var 10, .var 19, .bx (.lit false)])))))) .ok)) .ok)
 (.call 12 [.var 3, .ex (.var 4), .ex (.var 5)] (.call 13 [.var 7, .ex (.var 8), .ex (.var 9)] (.call 13 [.var 11, .ex (.var 12), .ex (.var 13)] (.ret [.var 10, .var 14, .bx (.lit false)])))))) .ok)) .ok)) .ok)) .ok)) .ok))
theorem rAlike : runCtr { (cxQa Tryz.prog) with hints := hsAlike } 20 cAlike [] [] = tAlike := by
  dsimp only [tAlike, va, List.map_cons, List.map_nil, List.cons_append, List.nil_append]
  kernel_rfl

end Go.Proofs.YtbmbiiiacajolaaGreat
