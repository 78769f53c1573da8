import Derived.Test.YtdabdbbgaekmdaaGreatDaM
import Derived.KernelRfl
import Derived.Test.YtdabdbbgaekmdaaGreatDbM
/- The ways of the runs, as a program of ours printed them. -/
namespace Go.Proofs.YtdabdbbgaekmdaaGreat
set_option linter.unusedVariables false
set_option linter.unusedSimpArgs false
set_option linter.unusedSectionVars false
open Go
set_option maxRecDepth 100000

def hsTkStep : List (Nat × Nat × List Nat) := []
def tTkStep : Tree := (.and (.opn 0 5 (.and (.and (.call 0 [.var 1, .ex (.var 4)] (.and (.call 5 [.ex (.var 4), .ex (.var 5), .ex (.var 6), .ex (.var 8)] (.br (.cmp .lss (.var 9) (.lit 0))
 (.and (.and (.ext (.mk 11 (va [2, 3, 4, 5, 6] ([.ex (.lit 0), .ex (.lit 0), .ex (.lit 7), .ex (.var 8), .ex (.var 9), .ex (.lit 0)]))) (.ret [.var 10, .var 7, .bx (.lit true)])) .ok) .ok)
 (.and (.ext (.mk 7 (va [2, 3, 4, 5, 6, 8, 9] ([.ex (.lit 0)]))) (.ret [.var 10, .var 7, .bx (.lit false)])) .ok))) .ok)) .ok) .ok))
 (.and (.opn 0 6 (.and (.and (.call 0 [.var 1, .ex (.var 4)] (.and (.call 5 [.ex (.var 4), .ex (.var 5), .ex (.var 6), .ex (.var 11)] (.br (.cmp .lss (.var 12) (.lit 0))
 (.and (.and (.ext (.mk 11 (va [2, 3, 4, 5, 6] (.ex (.lit 0) :: .ex (.lit 0) :: .ex (.lit 7) :: va [11, 12, 9] []))) (.ret [.var 13, .var 10, .bx (.lit true)])) .ok) .ok)
 (.and (.ext (.mk 7 (va [2, 3, 4, 5, 6, 11, 12, 9] [])) (.ret [.var 13, .var 10, .bx (.lit false)])) .ok))) .ok)) .ok) .ok))
 (.and (.opn 0 7 (.and (.and (.and (.and (.and (.call 0 [.var 1, .ex (.bin .add .i64 (.var 5) (.var 8))] (.and (.call 5 [.ex (.var 4), .ex (.var 5), .ex (.var 6), .ex (.var 11)] (.and (.and (.ext (.mk 8 (va [2, 3, 4, 5, 6, 7, 8, 12] [])) (.ret [.var 13, .var 10, .bx (.lit false)])) .ok) .ok)) .ok)) .ok) .ok)
 (.and (.and (.and (.call 0 [.var 1, .ex (.bin .add .i64 (.var 5) (.var 8))] (.and (.call 5 [.ex (.var 4), .ex (.var 5), .ex (.var 6), .ex (.var 11)] (.and (.and (.ext (.mk 8 (va [2, 3, 4, 5, 6, 7, 8, 12] [])) (.ret [.var 13, .var 10, .bx (.lit false)])) .ok) .ok)) .ok)) .ok) .ok) .ok))
 (.and (.and (.and (.and (.call 0 [.var 1, .ex (.bin .add .i64 (.var 5) (.var 8))] (.and (.call 5 [.ex (.var 4), .ex (.var 5), .ex (.var 6), .ex (.var 11)] (.and (.and (.ext (.mk 8 (va [2, 3, 4, 5, 6, 7, 8, 12] [])) (.ret [.var 13, .var 10, .bx (.lit false)])) .ok) .ok)) .ok)) .ok) .ok)
 (.and (.and (.and (.call 0 [.var 1, .ex (.bin .add .i64 (.var 5) (.var 8))] (.and (.call 5 [.ex (.var 4), .ex (.var 5), .ex (.var 6), .ex (.var 11)] (.and (.and (.ext (.mk 8 (va [2, 3, 4, 5, 6, 7, 8, 12] [])) (.ret [.var 13, .var 10, .bx (.lit false)])) .ok) .ok)) .ok)) .ok)
 (.and (.call 0 [.var 1, .ex (.bin .add .i64 (.var 5) (.var 8))] (.and (.and (.call 5 [.ex (.var 4), .ex (.var 5), .ex (.var 6), .ex (.var 11)] (.and (.and (.ext (.mk 8 (va [2, 3, 4, 5, 6, 7, 8, 12] [])) (.ret [.var 13, .var 10, .bx (.lit false)])) .ok) .ok)) .ok) .ok)) .ok)) .ok))
 (.and (.and (.and (.and (.call 0 [.var 1, .ex (.bin .add .i64 (.var 5) (.var 8))] (.and (.call 5 [.ex (.var 4), .ex (.var 5), .ex (.var 6), .ex (.var 11)] (.and (.and (.ext (.mk 8 (va [2, 3, 4, 5, 6, 7, 8, 12] [])) (.ret [.var 13, .var 10, .bx (.lit false)])) .ok) .ok)) .ok)) .ok) .ok)
 (.and (.and (.and (.call 0 [.var 1, .ex (.bin .add .i64 (.var 5) (.var 8))] (.and (.call 5 [.ex (.var 4), .ex (.var 5), .ex (.var 6), .ex (.var 11)] (.and (.and (.ext (.mk 8 (va [2, 3, 4, 5, 6, 7, 8, 12] [])) (.ret [.var 13, .var 10, .bx (.lit false)])) .ok) .ok)) .ok)) .ok)
 (.and (.call 0 [.var 1, .ex (.bin .add .i64 (.var 5) (.var 8))] (.and (.and (.call 5 [.ex (.var 4), .ex (.var 5), .ex (.var 6), .ex (.var 11)] (.and (.and (.ext (.mk 8 (va [2, 3, 4, 5, 6, 7, 8, 12] [])) (.ret [.var 13, .var 10, .bx (.lit false)])) .ok) .ok)) .ok) .ok)) .ok)) .ok)) .ok))) .ok))
 (.and (.opn 0 8 (.and (.and (.and (.call 3 [.ex (.var 7)] (.call 4 [.ex (.var 9), .ex (.bin .and .i64 (.bin .add .i64 (.var 11) (.lit 1)) (.lit 281474976710655))] (.and (.call 2 [.var 1, .ex (.var 4), .ex (.var 7), .ex (.var 12)] (.br (.var 15)
 (.and (.and (.ext (.mk 9 (va [2, 3, 4, 5, 6, 8] (.ex (.lit 0) :: va [7, 8, 9] []))) (.ret [.var 16, .var 14, .bx (.lit false)])) .ok) .ok)
 (.and (.ext (.mk 6 (va [2, 3, 4, 5, 6, 7, 8, 9] [])) (.ret [.var 16, .var 14, .bx (.lit false)])) .ok))) .ok))) .ok) .ok) .ok))
 (.and (.opn 0 9 (.and (.and (.and (.and (.and (.call 0 [.var 1, .ex (.bin .add .i64 (.var 2) (.var 7))] (.and (.call 6 [.ex (.var 13)] (.and (.and (.ext (.mk 10 (va [2, 3, 4, 5, 6, 7, 13, 9, 10, 11] [])) (.ret [.var 17, .var 12, .bx (.lit false)])) .ok) .ok)) .ok)) .ok) .ok)
 (.and (.and (.and (.call 0 [.var 1, .ex (.bin .add .i64 (.var 2) (.var 7))] (.and (.call 6 [.ex (.var 13)] (.and (.and (.ext (.mk 10 (va [2, 3, 4, 5, 6, 7, 13, 9, 10, 11] [])) (.ret [.var 17, .var 12, .bx (.lit false)])) .ok) .ok)) .ok)) .ok) .ok) .ok)) .ok) .ok))
 (.and (.opn 0 10 (.and (.and (.call 6 [.ex (.var 8)] (.and (.call 7 [.ex (.lit 2), .ex (.lit 0), .ex (.bin .and .i64 (.bin .add .i64 (.var 14) (.lit 1)) (.lit 4294967295))] (.and (.call 2 [.var 1, .ex (.bin .add .i64 (.var 2) (.var 7)), .ex (.var 8), .ex (.var 15)] (.br (.var 17)
 (.and (.and (.ext (.mk 12 (va [2, 3, 4, 5, 6, 7, 8, 9, 10, 11] [])) (.ret [.var 18, .var 16, .bx (.lit true)])) .ok) .ok)
 (.and (.and (.ext (.mk 9 (va [2, 3, 4, 5, 6, 7, 8, 9, 10, 11] [])) (.ret [.var 18, .var 16, .bx (.lit false)])) .ok) .ok))) .ok)) .ok)) .ok) .ok))
 (.and (.opn 0 11 (.ext (.mk 11 (va [2, 3, 4, 5, 6, 7, 8, 9, 10, 11, 12] [])) (.ret [.var 13, .var 1, .bx (.lit true)])))
 (.and (.opn 0 12 (.ext (.mk 12 (va [2, 3, 4, 5, 6, 7, 8, 9, 10, 11] [])) (.ret [.var 12, .var 1, .bx (.lit true)])))
 (.nomore 0 [5, 6, 7, 8, 9, 10, 11, 12])))))))))
theorem rTkStep : runCtr { (cxDp Tryz.prog) with hints := hsTkStep } 20 cTkStep [(0, [5,6,7,8,9,10,11,12])] [(0, [5,6,7,8,9,10,11,12])] = tTkStep := by
  dsimp only [tTkStep, va, List.map_cons, List.map_nil, List.cons_append, List.nil_append]
  kernel_rfl

def hsGvStep : List (Nat × Nat × List Nat) := []
def tGvStep : Tree := (.and (.opn 0 14 (.and (.and (.and (.and (.and (.call 0 [.var 1, .ex (.bin .add .i64 (.var 2) (.var 7))] (.and (.call 6 [.ex (.var 9)] (.br (.cmp .eql (.var 10) (.lit 5))
 (.and (.and (.ext (.mk 16 (va [2, 3, 4, 5, 6, 7, 9] [])) (.ret [.var 13, .var 8, .bx (.lit false)])) .ok) .ok)
 (.br (.cmp .eql (.var 10) (.lit 2))
 (.and (.and (.ext (.mk 16 (va [2, 3, 4, 5, 6, 7, 9] [])) (.ret [.var 13, .var 8, .bx (.lit false)])) .ok) .ok)
 (.and (.and (.ext (.mk 20 (va [2, 3, 4, 5, 6, 7, 9] ([.ex (.lit 11)]))) (.ret [.var 13, .var 8, .bx (.lit true)])) .ok) .ok)))) .ok)) .ok) .ok)
 (.and (.and (.and (.call 0 [.var 1, .ex (.bin .add .i64 (.var 2) (.var 7))] (.and (.call 6 [.ex (.var 9)] (.br (.cmp .eql (.var 10) (.lit 5))
 (.and (.and (.ext (.mk 16 (va [2, 3, 4, 5, 6, 7, 9] [])) (.ret [.var 13, .var 8, .bx (.lit false)])) .ok) .ok)
 (.br (.cmp .eql (.var 10) (.lit 2))
 (.and (.and (.ext (.mk 16 (va [2, 3, 4, 5, 6, 7, 9] [])) (.ret [.var 13, .var 8, .bx (.lit false)])) .ok) .ok)
 (.and (.and (.ext (.mk 20 (va [2, 3, 4, 5, 6, 7, 9] ([.ex (.lit 11)]))) (.ret [.var 13, .var 8, .bx (.lit true)])) .ok) .ok)))) .ok)) .ok) .ok) .ok)) .ok) .ok))
 (.and (.opn 0 15 (.and (.and (.and (.and (.and (.call 0 [.var 1, .ex (.bin .add .i64 (.var 2) (.var 7))] (.and (.call 6 [.ex (.var 10)] (.br (.cmp .eql (.var 11) (.lit 5))
 (.and (.and (.ext (.mk 16 (va [2, 3, 4, 5, 6, 7, 10] [])) (.ret [.var 14, .var 9, .bx (.lit false)])) .ok) .ok)
 (.br (.cmp .eql (.var 11) (.lit 2))
 (.and (.and (.ext (.mk 16 (va [2, 3, 4, 5, 6, 7, 10] [])) (.ret [.var 14, .var 9, .bx (.lit false)])) .ok) .ok)
 (.and (.and (.ext (.mk 20 (va [2, 3, 4, 5, 6, 7, 10] ([.ex (.lit 11)]))) (.ret [.var 14, .var 9, .bx (.lit true)])) .ok) .ok)))) .ok)) .ok) .ok)
 (.and (.and (.and (.call 0 [.var 1, .ex (.bin .add .i64 (.var 2) (.var 7))] (.and (.call 6 [.ex (.var 10)] (.br (.cmp .eql (.var 11) (.lit 5))
 (.and (.and (.ext (.mk 16 (va [2, 3, 4, 5, 6, 7, 10] [])) (.ret [.var 14, .var 9, .bx (.lit false)])) .ok) .ok)
 (.br (.cmp .eql (.var 11) (.lit 2))
 (.and (.and (.ext (.mk 16 (va [2, 3, 4, 5, 6, 7, 10] [])) (.ret [.var 14, .var 9, .bx (.lit false)])) .ok) .ok)
 (.and (.and (.ext (.mk 20 (va [2, 3, 4, 5, 6, 7, 10] ([.ex (.lit 11)]))) (.ret [.var 14, .var 9, .bx (.lit true)])) .ok) .ok)))) .ok)) .ok) .ok) .ok)) .ok) .ok))
 (.and (.opn 0 16 (.and (.and (.call 6 [.ex (.var 8)] (.and (.call 7 [.ex (.lit 1), .ex (.lit 0), .ex (.bin .and .i64 (.bin .add .i64 (.var 11) (.lit 0)) (.lit 4294967295))] (.and (.call 2 [.var 1, .ex (.bin .add .i64 (.var 2) (.var 7)), .ex (.var 8), .ex (.var 12)] (.br (.var 14)
 (.and (.and (.ext (.mk 17 (va [2, 3, 4, 5, 6, 7, 8] ([.ex (.lit 0), .ex (.lit 0)]))) (.ret [.var 15, .var 13, .bx (.lit false)])) .ok) .ok)
 (.and (.and (.ext (.mk 15 (va [2, 3, 4, 5, 6, 7, 8] [])) (.ret [.var 15, .var 13, .bx (.lit false)])) .ok) .ok))) .ok)) .ok)) .ok) .ok))
 (.and (.opn 0 17 (.and (.call 0 [.var 1, .ex (.var 4)] (.and (.call 5 [.ex (.var 4), .ex (.var 5), .ex (.var 6), .ex (.var 12)] (.and (.ext (.mk 18 (va [2, 3, 4, 5, 6, 7, 8, 12, 13] [])) (.ret [.var 14, .var 11, .bx (.lit false)])) .ok)) .ok)) .ok))
 (.and (.opn 0 18 (.and (.and (.call 4 [.ex (.var 10), .ex (.lit 0)] (.and (.call 1 [.var 1, .ex (.bin .add .i64 (.var 5) (.var 7)), .ex (.var 11)] (.and (.ext (.mk 19 (va [2, 3, 4, 5, 6, 7, 8, 9, 10] [])) (.ret [.var 14, .var 13, .bx (.lit false)])) .ok)) .ok)) .ok) .ok))
 (.and (.opn 0 19 (.and (.and (.and (.call 3 [.ex (.var 9)] (.call 4 [.ex (.var 7), .ex (.bin .and .i64 (.bin .add .i64 (.var 12) (.lit 1)) (.lit 281474976710655))] (.and (.call 2 [.var 1, .ex (.var 4), .ex (.var 9), .ex (.var 13)] (.br (.var 16)
 (.and (.and (.ext (.mk 21 (va [2, 3, 4, 5, 6, 7, 8, 9, 10] [])) (.ret [.var 17, .var 15, .bx (.lit true)])) .ok) .ok)
 (.and (.ext (.mk 17 (va [2, 3, 4, 5, 6, 7, 8, 9, 10] [])) (.ret [.var 17, .var 15, .bx (.lit false)])) .ok))) .ok))) .ok) .ok) .ok))
 (.and (.opn 0 20 (.ext (.mk 20 (va [2, 3, 4, 5, 6, 7, 8, 9] [])) (.ret [.var 10, .var 1, .bx (.lit true)])))
 (.and (.opn 0 21 (.ext (.mk 21 (va [2, 3, 4, 5, 6, 7, 8, 9, 10] [])) (.ret [.var 11, .var 1, .bx (.lit true)])))
 (.and (.opn 0 22 (.ext (.mk 22 (va [2, 3, 4, 5, 6, 7, 8] [])) (.ret [.var 9, .var 1, .bx (.lit true)])))
 (.nomore 0 [14, 15, 16, 17, 18, 19, 20, 21, 22]))))))))))
theorem rGvStep : runCtr { (cxDp Tryz.prog) with hints := hsGvStep } 20 cGvStep [(0, [14,15,16,17,18,19,20,21,22])] [(0, [14,15,16,17,18,19,20,21,22])] = tGvStep := by
  dsimp only [tGvStep, va, List.map_cons, List.map_nil, List.cons_append, List.nil_append]
  kernel_rfl

def hsTuStep : List (Nat × Nat × List Nat) := []
def tTuStep : Tree := (.and (.opn 0 24 (.and (.and (.and (.and (.and (.call 0 [.var 1, .ex (.bin .add .i64 (.var 2) (.var 7))] (.and (.call 6 [.ex (.var 12)] (.br (.cmp .eql (.var 13) (.var 8))
 (.br (.cmp .eql (.var 13) (.lit 4))
 (.and (.call 6 [.ex (.var 12)] (.br (.cmp .eql (.var 17) (.var 10))
 (.and (.and (.ext (.mk 26 (va [2, 3, 4, 5, 6, 7, 12, 8, 9, 10] [])) (.ret [.var 19, .var 11, .bx (.lit false)])) .ok) .ok)
 (.and (.and (.ext (.mk 27 (va [2, 3, 4, 5, 6, 7, 12] (.ex (.lit 11) :: va [8, 9, 10] []))) (.ret [.var 19, .var 11, .bx (.lit true)])) .ok) .ok))) .ok)
 (.and (.and (.ext (.mk 26 (va [2, 3, 4, 5, 6, 7, 12, 8, 9, 10] [])) (.ret [.var 16, .var 11, .bx (.lit false)])) .ok) .ok))
 (.and (.and (.ext (.mk 27 (va [2, 3, 4, 5, 6, 7, 12] (.ex (.lit 11) :: va [8, 9, 10] []))) (.ret [.var 16, .var 11, .bx (.lit true)])) .ok) .ok))) .ok)) .ok) .ok)
 (.and (.and (.and (.call 0 [.var 1, .ex (.bin .add .i64 (.var 2) (.var 7))] (.and (.call 6 [.ex (.var 12)] (.br (.cmp .eql (.var 13) (.var 8))
 (.br (.cmp .eql (.var 13) (.lit 4))
 (.and (.call 6 [.ex (.var 12)] (.br (.cmp .eql (.var 17) (.var 10))
 (.and (.and (.ext (.mk 26 (va [2, 3, 4, 5, 6, 7, 12, 8, 9, 10] [])) (.ret [.var 19, .var 11, .bx (.lit false)])) .ok) .ok)
 (.and (.and (.ext (.mk 27 (va [2, 3, 4, 5, 6, 7, 12] (.ex (.lit 11) :: va [8, 9, 10] []))) (.ret [.var 19, .var 11, .bx (.lit true)])) .ok) .ok))) .ok)
 (.and (.and (.ext (.mk 26 (va [2, 3, 4, 5, 6, 7, 12, 8, 9, 10] [])) (.ret [.var 16, .var 11, .bx (.lit false)])) .ok) .ok))
 (.and (.and (.ext (.mk 27 (va [2, 3, 4, 5, 6, 7, 12] (.ex (.lit 11) :: va [8, 9, 10] []))) (.ret [.var 16, .var 11, .bx (.lit true)])) .ok) .ok))) .ok)) .ok) .ok) .ok)) .ok) .ok))
 (.and (.opn 0 25 (.and (.and (.and (.and (.and (.call 0 [.var 1, .ex (.bin .add .i64 (.var 2) (.var 7))] (.and (.call 6 [.ex (.var 13)] (.br (.cmp .eql (.var 14) (.var 9))
 (.br (.cmp .eql (.var 14) (.lit 4))
 (.and (.call 6 [.ex (.var 13)] (.br (.cmp .eql (.var 18) (.var 11))
 (.and (.and (.ext (.mk 26 (va [2, 3, 4, 5, 6, 7, 13, 9, 10, 11] [])) (.ret [.var 20, .var 12, .bx (.lit false)])) .ok) .ok)
 (.and (.and (.ext (.mk 27 (va [2, 3, 4, 5, 6, 7, 13] (.ex (.lit 11) :: va [9, 10, 11] []))) (.ret [.var 20, .var 12, .bx (.lit true)])) .ok) .ok))) .ok)
 (.and (.and (.ext (.mk 26 (va [2, 3, 4, 5, 6, 7, 13, 9, 10, 11] [])) (.ret [.var 17, .var 12, .bx (.lit false)])) .ok) .ok))
 (.and (.and (.ext (.mk 27 (va [2, 3, 4, 5, 6, 7, 13] (.ex (.lit 11) :: va [9, 10, 11] []))) (.ret [.var 17, .var 12, .bx (.lit true)])) .ok) .ok))) .ok)) .ok) .ok)
 (.and (.and (.and (.call 0 [.var 1, .ex (.bin .add .i64 (.var 2) (.var 7))] (.and (.call 6 [.ex (.var 13)] (.br (.cmp .eql (.var 14) (.var 9))
 (.br (.cmp .eql (.var 14) (.lit 4))
 (.and (.call 6 [.ex (.var 13)] (.br (.cmp .eql (.var 18) (.var 11))
 (.and (.and (.ext (.mk 26 (va [2, 3, 4, 5, 6, 7, 13, 9, 10, 11] [])) (.ret [.var 20, .var 12, .bx (.lit false)])) .ok) .ok)
 (.and (.and (.ext (.mk 27 (va [2, 3, 4, 5, 6, 7, 13] (.ex (.lit 11) :: va [9, 10, 11] []))) (.ret [.var 20, .var 12, .bx (.lit true)])) .ok) .ok))) .ok)
 (.and (.and (.ext (.mk 26 (va [2, 3, 4, 5, 6, 7, 13, 9, 10, 11] [])) (.ret [.var 17, .var 12, .bx (.lit false)])) .ok) .ok))
 (.and (.and (.ext (.mk 27 (va [2, 3, 4, 5, 6, 7, 13] (.ex (.lit 11) :: va [9, 10, 11] []))) (.ret [.var 17, .var 12, .bx (.lit true)])) .ok) .ok))) .ok)) .ok) .ok) .ok)) .ok) .ok))
 (.and (.opn 0 26 (.and (.and (.br (.cmp .eql (.var 10) (.lit 4))
 (.and (.call 6 [.ex (.var 8)] (.and (.call 7 [.ex (.var 10), .ex (.var 11), .ex (.bin .and .i64 (.bin .add .i64 (.var 14) (.lit 0)) (.lit 4294967295))] (.and (.call 2 [.var 1, .ex (.bin .add .i64 (.var 2) (.var 7)), .ex (.var 8), .ex (.var 15)] (.br (.var 17)
 (.and (.and (.ext (.mk 27 (va [2, 3, 4, 5, 6, 7, 8] (.ex (.lit 0) :: va [9, 10, 11] []))) (.ret [.var 18, .var 16, .bx (.lit true)])) .ok) .ok)
 (.and (.and (.ext (.mk 25 (va [2, 3, 4, 5, 6, 7, 8, 9, 10, 11] [])) (.ret [.var 18, .var 16, .bx (.lit false)])) .ok) .ok))) .ok)) .ok)) .ok)
 (.and (.call 6 [.ex (.var 8)] (.and (.call 7 [.ex (.var 10), .ex (.lit 0), .ex (.bin .and .i64 (.bin .add .i64 (.var 14) (.lit 0)) (.lit 4294967295))] (.and (.call 2 [.var 1, .ex (.bin .add .i64 (.var 2) (.var 7)), .ex (.var 8), .ex (.var 15)] (.br (.var 17)
 (.and (.and (.ext (.mk 27 (va [2, 3, 4, 5, 6, 7, 8] (.ex (.lit 0) :: va [9, 10, 11] []))) (.ret [.var 18, .var 16, .bx (.lit true)])) .ok) .ok)
 (.and (.and (.ext (.mk 25 (va [2, 3, 4, 5, 6, 7, 8, 9, 10, 11] [])) (.ret [.var 18, .var 16, .bx (.lit false)])) .ok) .ok))) .ok)) .ok)) .ok)) .ok) .ok))
 (.and (.opn 0 27 (.ext (.mk 27 (va [2, 3, 4, 5, 6, 7, 8, 9, 10, 11, 12] [])) (.ret [.var 13, .var 1, .bx (.lit true)])))
 (.nomore 0 [24, 25, 26, 27])))))
theorem rTuStep : runCtr { (cxDp Tryz.prog) with hints := hsTuStep } 20 cTuStep [(0, [24,25,26,27])] [(0, [24,25,26,27])] = tTuStep := by
  dsimp only [tTuStep, va, List.map_cons, List.map_nil, List.cons_append, List.nil_append]
  kernel_rfl

def hsKyStep : List (Nat × Nat × List Nat) := []
def tKyStep : Tree := (.and (.opn 0 29 (.and (.and (.call 1 [.var 1, .ex (.bin .add .i64 (.var 3) (.var 7)), .ex (.var 8)] (.and (.and (.ext (.mk 30 (va [2, 3, 4, 5, 6, 7, 8] ([.ex (.lit 0)]))) (.ret [.var 10, .var 9, .bx (.lit true)])) .ok) .ok)) .ok) .ok))
 (.and (.opn 0 30 (.ext (.mk 30 (va [2, 3, 4, 5, 6, 7, 8, 9] [])) (.ret [.var 10, .var 1, .bx (.lit true)])))
 (.nomore 0 [29, 30])))
theorem rKyStep : runCtr { (cxDp Tryz.prog) with hints := hsKyStep } 20 cKyStep [(0, [29,30])] [(0, [29,30])] = tKyStep := by
  dsimp only [tKyStep, va, List.map_cons, List.map_nil, List.cons_append, List.nil_append]
  kernel_rfl

def hsKoStep : List (Nat × Nat × List Nat) := []
def tKoStep : Tree := (.and (.opn 0 32 (.and (.and (.and (.and (.and (.call 0 [.var 1, .ex (.bin .add .i64 (.var 3) (.var 7))] (.and (.and (.and (.ext (.mk 33 (va [2, 3, 4, 5, 6, 7, 9] ([.ex (.lit 0)]))) (.ret [.var 10, .var 8, .bx (.lit true)])) .ok) .ok) .ok)) .ok) .ok)
 (.and (.and (.and (.call 0 [.var 1, .ex (.bin .add .i64 (.var 3) (.var 7))] (.and (.and (.and (.ext (.mk 33 (va [2, 3, 4, 5, 6, 7, 9] ([.ex (.lit 0)]))) (.ret [.var 10, .var 8, .bx (.lit true)])) .ok) .ok) .ok)) .ok) .ok) .ok)) .ok) .ok))
 (.and (.opn 0 33 (.ext (.mk 33 (va [2, 3, 4, 5, 6, 7, 8, 9] [])) (.ret [.var 10, .var 1, .bx (.lit true)])))
 (.nomore 0 [32, 33])))
theorem rKoStep : runCtr { (cxDp Tryz.prog) with hints := hsKoStep } 20 cKoStep [(0, [32,33])] [(0, [32,33])] = tKoStep := by
  dsimp only [tKoStep, va, List.map_cons, List.map_nil, List.cons_append, List.nil_append]
  kernel_rfl

def hsQOStep : List (Nat × Nat × List Nat) := []
def tQOStep : Tree := (.and (.opn 0 35 (.br (.cmp .eql (.var 7) (.lit 0))
 (.br (.cmp .eql (.var 11) (.lit 1))
 (.call 0 [.var 1, .ex (.var 4)] (.and (.and (.and (.call 3 [.ex (.var 4), .ex (.var 5), .ex (.var 6), .ex (.var 16)] (.and (.br (.cmp .lss (.var 17) (.lit 0))
 (.and (.ext (.mk 35 (va [2, 3, 4, 5, 6] (.ex (.lit 9) :: .ex (.lit 0) :: .ex (.var 9) :: .ex (.lit 7) :: .ex (.lit 9) :: va [16, 17, 14] []))) (.ret [.var 18, .var 15, .bx (.lit true)])) .ok)
 (.ext (.mk 35 (va [2, 3, 4, 5, 6, 7, 8, 9, 10] (.ex (.lit 2) :: va [16, 17, 14] []))) (.ret [.var 18, .var 15, .bx (.cmp .eql (.var 7) (.lit 9))]))) .ok)) .ok) .ok)
 (.and (.and (.and (.call 3 [.ex (.var 4), .ex (.var 5), .ex (.var 6), .ex (.var 16)] (.and (.br (.cmp .lss (.var 17) (.lit 0))
 (.and (.ext (.mk 35 (va [2, 3, 4, 5, 6] (.ex (.lit 9) :: .ex (.lit 0) :: .ex (.var 9) :: .ex (.lit 7) :: .ex (.lit 9) :: va [16, 17, 14] []))) (.ret [.var 18, .var 15, .bx (.lit true)])) .ok)
 (.ext (.mk 35 (va [2, 3, 4, 5, 6, 7, 8, 9, 10] (.ex (.lit 2) :: va [16, 17, 14] []))) (.ret [.var 18, .var 15, .bx (.cmp .eql (.var 7) (.lit 9))]))) .ok)) .ok) .ok) .ok)))
 (.br (.cmp .eql (.var 11) (.lit 2))
 (.and (.and (.and (.and (.call 0 [.var 1, .ex (.bin .add .i64 (.var 5) (.var 13))] (.and (.call 3 [.ex (.var 4), .ex (.var 5), .ex (.var 6), .ex (.var 16)] (.and (.ext (.mk 35 (va [2, 3, 4, 5, 6, 7, 8, 9, 10] (.ex (.lit 3) :: va [12, 13, 17] []))) (.ret [.var 18, .var 15, .bx (.cmp .eql (.var 7) (.lit 9))])) .ok)) .ok)) .ok) .ok)
 (.and (.and (.and (.call 0 [.var 1, .ex (.bin .add .i64 (.var 5) (.var 13))] (.and (.call 3 [.ex (.var 4), .ex (.var 5), .ex (.var 6), .ex (.var 16)] (.and (.ext (.mk 35 (va [2, 3, 4, 5, 6, 7, 8, 9, 10] (.ex (.lit 3) :: va [12, 13, 17] []))) (.ret [.var 18, .var 15, .bx (.cmp .eql (.var 7) (.lit 9))])) .ok)) .ok)) .ok) .ok) .ok))
 (.and (.and (.and (.and (.call 0 [.var 1, .ex (.bin .add .i64 (.var 5) (.var 13))] (.and (.call 3 [.ex (.var 4), .ex (.var 5), .ex (.var 6), .ex (.var 16)] (.and (.ext (.mk 35 (va [2, 3, 4, 5, 6, 7, 8, 9, 10] (.ex (.lit 3) :: va [12, 13, 17] []))) (.ret [.var 18, .var 15, .bx (.cmp .eql (.var 7) (.lit 9))])) .ok)) .ok)) .ok) .ok)
 (.and (.and (.and (.call 0 [.var 1, .ex (.bin .add .i64 (.var 5) (.var 13))] (.and (.call 3 [.ex (.var 4), .ex (.var 5), .ex (.var 6), .ex (.var 16)] (.and (.ext (.mk 35 (va [2, 3, 4, 5, 6, 7, 8, 9, 10] (.ex (.lit 3) :: va [12, 13, 17] []))) (.ret [.var 18, .var 15, .bx (.cmp .eql (.var 7) (.lit 9))])) .ok)) .ok)) .ok)
 (.and (.call 0 [.var 1, .ex (.bin .add .i64 (.var 5) (.var 13))] (.and (.and (.call 3 [.ex (.var 4), .ex (.var 5), .ex (.var 6), .ex (.var 16)] (.and (.ext (.mk 35 (va [2, 3, 4, 5, 6, 7, 8, 9, 10] (.ex (.lit 3) :: va [12, 13, 17] []))) (.ret [.var 18, .var 15, .bx (.cmp .eql (.var 7) (.lit 9))])) .ok)) .ok) .ok)) .ok)) .ok))
 (.and (.and (.and (.and (.call 0 [.var 1, .ex (.bin .add .i64 (.var 5) (.var 13))] (.and (.call 3 [.ex (.var 4), .ex (.var 5), .ex (.var 6), .ex (.var 16)] (.and (.ext (.mk 35 (va [2, 3, 4, 5, 6, 7, 8, 9, 10] (.ex (.lit 3) :: va [12, 13, 17] []))) (.ret [.var 18, .var 15, .bx (.cmp .eql (.var 7) (.lit 9))])) .ok)) .ok)) .ok) .ok)
 (.and (.and (.and (.call 0 [.var 1, .ex (.bin .add .i64 (.var 5) (.var 13))] (.and (.call 3 [.ex (.var 4), .ex (.var 5), .ex (.var 6), .ex (.var 16)] (.and (.ext (.mk 35 (va [2, 3, 4, 5, 6, 7, 8, 9, 10] (.ex (.lit 3) :: va [12, 13, 17] []))) (.ret [.var 18, .var 15, .bx (.cmp .eql (.var 7) (.lit 9))])) .ok)) .ok)) .ok)
 (.and (.call 0 [.var 1, .ex (.bin .add .i64 (.var 5) (.var 13))] (.and (.and (.call 3 [.ex (.var 4), .ex (.var 5), .ex (.var 6), .ex (.var 16)] (.and (.ext (.mk 35 (va [2, 3, 4, 5, 6, 7, 8, 9, 10] (.ex (.lit 3) :: va [12, 13, 17] []))) (.ret [.var 18, .var 15, .bx (.cmp .eql (.var 7) (.lit 9))])) .ok)) .ok) .ok)) .ok)) .ok)) .ok)))
 (.br (.cmp .eql (.var 11) (.lit 3))
 (.and (.call 4 [.ex (.var 14), .ex (.var 12)] (.and (.call 2 [.var 1, .ex (.var 4), .ex (.var 12), .ex (.var 15)] (.br (.var 17)
 (.and (.br (.cmp .lss (.var 13) (.lit 0))
 (.ext (.mk 35 (va [2, 3, 4, 5, 6] (.ex (.lit 9) :: .ex (.lit 0) :: .ex (.var 9) :: .ex (.lit 7) :: .ex (.lit 9) :: va [12, 13, 14] []))) (.ret [.var 18, .var 16, .bx (.lit true)]))
 (.ext (.mk 35 (va [2, 3, 4, 5, 6] (.ex (.lit 1) :: va [13, 9, 10] (.ex (.lit 9) :: va [12, 13, 14] [])))) (.ret [.var 18, .var 16, .bx (.lit false)]))) .ok)
 (.ext (.mk 35 (va [2, 3, 4, 5, 6, 7, 8, 9, 10] (.ex (.lit 1) :: va [12, 13, 14] []))) (.ret [.var 18, .var 16, .bx (.cmp .eql (.var 7) (.lit 9))])))) .ok)) .ok)
 (.br (.cmp .eql (.var 11) (.lit 9))
 (.and (.br (.cmp .lss (.var 13) (.lit 0))
 (.ext (.mk 35 (va [2, 3, 4, 5, 6] (.ex (.lit 9) :: .ex (.lit 0) :: .ex (.var 9) :: .ex (.lit 7) :: va [11, 12, 13, 14] []))) (.ret [.var 15, .var 1, .bx (.lit true)]))
 (.ext (.mk 35 (va [2, 3, 4, 5, 6] (.ex (.lit 1) :: va [13, 9, 10, 11, 12, 13, 14] []))) (.ret [.var 15, .var 1, .bx (.lit false)]))) .ok)
 (.ext (.mk 35 (va [2, 3, 4, 5, 6, 7, 8, 9, 10, 11, 12, 13, 14] [])) (.ret [.var 15, .var 1, .bx (.cmp .eql (.var 7) (.lit 9))]))))))
 (.br (.cmp .eql (.var 7) (.lit 1))
 (.and (.and (.and (.call 0 [.var 1, .ex (.bin .add .i64 (.var 2) (.var 8))] (.and (.call 5 [.ex (.var 16)] (.ext (.mk 35 (va [2, 3, 4, 5, 6] (.ex (.lit 2) :: va [8, 16, 10, 11, 12, 13, 14] []))) (.ret [.var 20, .var 15, .bx (.lit false)]))) .ok)) .ok) .ok)
 (.and (.and (.and (.call 0 [.var 1, .ex (.bin .add .i64 (.var 2) (.var 8))] (.and (.call 5 [.ex (.var 16)] (.ext (.mk 35 (va [2, 3, 4, 5, 6] (.ex (.lit 2) :: va [8, 16, 10, 11, 12, 13, 14] []))) (.ret [.var 20, .var 15, .bx (.lit false)]))) .ok)) .ok) .ok) .ok))
 (.br (.cmp .eql (.var 7) (.lit 2))
 (.and (.call 5 [.ex (.var 9)] (.and (.call 6 [.ex (.lit 2), .ex (.lit 0), .ex (.bin .rem .i64 (.bin .add .i64 (.var 17) (.lit 1)) (.lit 4294967296))] (.and (.call 2 [.var 1, .ex (.bin .add .i64 (.var 2) (.var 8)), .ex (.var 9), .ex (.var 18)] (.br (.var 20)
 (.ext (.mk 35 (va [2, 3, 4, 5, 6] (.ex (.lit 9) :: va [8, 9, 10, 11, 12, 13, 14] []))) (.ret [.var 21, .var 19, .bx (.lit true)]))
 (.ext (.mk 35 (va [2, 3, 4, 5, 6] (.ex (.lit 1) :: va [8, 9, 10, 11, 12, 13, 14] []))) (.ret [.var 21, .var 19, .bx (.lit false)])))) .ok)) .ok)) .ok)
 (.br (.cmp .eql (.var 7) (.lit 3))
 (Tree.fail "operation")
 (.ext (.mk 35 (va [2, 3, 4, 5, 6, 7, 8, 9, 10, 11, 12, 13, 14] [])) (.ret [.var 15, .var 1, .bx (.cmp .eql (.var 7) (.lit 9))])))))))
 (.and (.opn 0 36 (.br (.cmp .eql (.var 7) (.lit 0))
 (Tree.fail "operation")
 (.br (.cmp .eql (.var 7) (.lit 1))
 (.and (.and (.and (.call 0 [.var 1, .ex (.bin .add .i64 (.var 2) (.var 8))] (.and (.call 5 [.ex (.var 12)] (.br (.cmp .eql (.var 13) (.lit 5))
 (.ext (.mk 36 (va [2, 3, 4, 5, 6] (.ex (.lit 2) :: va [8, 12, 10] []))) (.ret [.var 16, .var 11, .bx (.lit false)]))
 (.br (.cmp .eql (.var 13) (.lit 2))
 (.ext (.mk 36 (va [2, 3, 4, 5, 6] (.ex (.lit 2) :: va [8, 12, 10] []))) (.ret [.var 16, .var 11, .bx (.lit false)]))
 (.ext (.mk 36 (va [2, 3, 4, 5, 6] ([.ex (.lit 9), .ex (.var 8), .ex (.var 12), .ex (.lit 11)]))) (.ret [.var 16, .var 11, .bx (.lit true)]))))) .ok)) .ok) .ok)
 (.and (.and (.and (.call 0 [.var 1, .ex (.bin .add .i64 (.var 2) (.var 8))] (.and (.call 5 [.ex (.var 12)] (.br (.cmp .eql (.var 13) (.lit 5))
 (.ext (.mk 36 (va [2, 3, 4, 5, 6] (.ex (.lit 2) :: va [8, 12, 10] []))) (.ret [.var 16, .var 11, .bx (.lit false)]))
 (.br (.cmp .eql (.var 13) (.lit 2))
 (.ext (.mk 36 (va [2, 3, 4, 5, 6] (.ex (.lit 2) :: va [8, 12, 10] []))) (.ret [.var 16, .var 11, .bx (.lit false)]))
 (.ext (.mk 36 (va [2, 3, 4, 5, 6] ([.ex (.lit 9), .ex (.var 8), .ex (.var 12), .ex (.lit 11)]))) (.ret [.var 16, .var 11, .bx (.lit true)]))))) .ok)) .ok) .ok) .ok))
 (.br (.cmp .eql (.var 7) (.lit 2))
 (.and (.call 5 [.ex (.var 9)] (.and (.call 6 [.ex (.lit 1), .ex (.lit 0), .ex (.var 13)] (.and (.call 2 [.var 1, .ex (.bin .add .i64 (.var 2) (.var 8)), .ex (.var 9), .ex (.var 14)] (.br (.var 16)
 (.and (.and (.and (.br (.cmp .lss (.var 8) (.lit 0))
 (.and (Tree.fail "fold") .ok)
 (.br (.cmp .geq (.var 8) (.var 6))
 (.and (Tree.fail "fold") .ok)
 (.and (.ext (.mk 37 (va [2, 3, 4, 5, 6] (.ex (.lit 3) :: va [8, 9, 10] ([.ex (.lit 1), .ex (.lit 0)])))) (.ret [.var 17, .var 15, .bx (.lit false)])) .ok))) .ok) .ok)
 (.and (.and (.and (.br (.cmp .lss (.var 8) (.lit 0))
 (.and (Tree.fail "fold") .ok)
 (.br (.cmp .geq (.var 8) (.var 6))
 (.and (Tree.fail "fold") .ok)
 (.and (.ext (.mk 37 (va [2, 3, 4, 5, 6] (.ex (.lit 3) :: va [8, 9, 10] ([.ex (.lit 1), .ex (.lit 0)])))) (.ret [.var 17, .var 15, .bx (.lit false)])) .ok))) .ok) .ok) .ok))
 (.ext (.mk 36 (va [2, 3, 4, 5, 6] (.ex (.lit 1) :: va [8, 9, 10] []))) (.ret [.var 17, .var 15, .bx (.lit false)])))) .ok)) .ok)) .ok)
 (.br (.cmp .eql (.var 7) (.lit 3))
 (Tree.fail "operation")
 (.ext (.mk 36 (va [2, 3, 4, 5, 6, 7, 8, 9, 10] [])) (.ret [.var 11, .var 1, .bx (.cmp .eql (.var 7) (.lit 9))])))))))
 (.and (.opn 0 37 (.br (.cmp .eql (.var 7) (.lit 0))
 (Tree.fail "operation")
 (.br (.cmp .eql (.var 7) (.lit 1))
 (.and (.and (.and (.call 0 [.var 1, .ex (.bin .add .i64 (.var 2) (.var 8))] (.and (.call 5 [.ex (.var 14)] (.br (.cmp .eql (.var 15) (.lit 5))
 (.ext (.mk 37 (va [2, 3, 4, 5, 6] (.ex (.lit 2) :: va [8, 14, 10, 11, 12] []))) (.ret [.var 18, .var 13, .bx (.lit false)]))
 (.br (.cmp .eql (.var 15) (.lit 2))
 (.ext (.mk 37 (va [2, 3, 4, 5, 6] (.ex (.lit 2) :: va [8, 14, 10, 11, 12] []))) (.ret [.var 18, .var 13, .bx (.lit false)]))
 (.ext (.mk 37 (va [2, 3, 4, 5, 6] ([.ex (.lit 9), .ex (.var 8), .ex (.var 14), .ex (.lit 11), .ex (.var 11), .ex (.var 12)]))) (.ret [.var 18, .var 13, .bx (.lit true)]))))) .ok)) .ok) .ok)
 (.and (.and (.and (.call 0 [.var 1, .ex (.bin .add .i64 (.var 2) (.var 8))] (.and (.call 5 [.ex (.var 14)] (.br (.cmp .eql (.var 15) (.lit 5))
 (.ext (.mk 37 (va [2, 3, 4, 5, 6] (.ex (.lit 2) :: va [8, 14, 10, 11, 12] []))) (.ret [.var 18, .var 13, .bx (.lit false)]))
 (.br (.cmp .eql (.var 15) (.lit 2))
 (.ext (.mk 37 (va [2, 3, 4, 5, 6] (.ex (.lit 2) :: va [8, 14, 10, 11, 12] []))) (.ret [.var 18, .var 13, .bx (.lit false)]))
 (.ext (.mk 37 (va [2, 3, 4, 5, 6] ([.ex (.lit 9), .ex (.var 8), .ex (.var 14), .ex (.lit 11), .ex (.var 11), .ex (.var 12)]))) (.ret [.var 18, .var 13, .bx (.lit true)]))))) .ok)) .ok) .ok) .ok))
 (.br (.cmp .eql (.var 7) (.lit 2))
 (.and (.call 5 [.ex (.var 9)] (.and (.call 6 [.ex (.lit 1), .ex (.lit 0), .ex (.var 15)] (.and (.call 2 [.var 1, .ex (.bin .add .i64 (.var 2) (.var 8)), .ex (.var 9), .ex (.var 16)] (.br (.var 18)
 (.and (.and (.and (.br (.cmp .lss (.var 8) (.lit 0))
 (.and (Tree.fail "fold") .ok)
 (.br (.cmp .geq (.var 8) (.var 6))
 (.and (Tree.fail "fold") .ok)
 (.and (.ext (.mk 37 (va [2, 3, 4, 5, 6] (.ex (.lit 3) :: va [8, 9, 10] ([.ex (.lit 1), .ex (.lit 0)])))) (.ret [.var 19, .var 17, .bx (.lit false)])) .ok))) .ok) .ok)
 (.and (.and (.and (.br (.cmp .lss (.var 8) (.lit 0))
 (.and (Tree.fail "fold") .ok)
 (.br (.cmp .geq (.var 8) (.var 6))
 (.and (Tree.fail "fold") .ok)
 (.and (.ext (.mk 37 (va [2, 3, 4, 5, 6] (.ex (.lit 3) :: va [8, 9, 10] ([.ex (.lit 1), .ex (.lit 0)])))) (.ret [.var 19, .var 17, .bx (.lit false)])) .ok))) .ok) .ok) .ok))
 (.ext (.mk 37 (va [2, 3, 4, 5, 6] (.ex (.lit 1) :: va [8, 9, 10, 11, 12] []))) (.ret [.var 19, .var 17, .bx (.lit false)])))) .ok)) .ok)) .ok)
 (.br (.cmp .eql (.var 7) (.lit 3))
 (.br (.cmp .eql (.var 11) (.lit 1))
 (.call 0 [.var 1, .ex (.var 4)] (.ext (.mk 37 (va [2, 3, 4, 5, 6, 7, 8, 9, 10] ([.ex (.lit 2), .ex (.var 14)]))) (.ret [.var 15, .var 13, .bx (.cmp .eql (.var 7) (.lit 9))])))
 (.br (.cmp .eql (.var 11) (.lit 2))
 (.and (.call 3 [.ex (.var 4), .ex (.var 5), .ex (.var 6), .ex (.var 12)] (.and (.call 1 [.var 1, .ex (.bin .add .i64 (.var 5) (.var 8)), .ex (.conv .u64 (.bin .add .i64 (.var 13) (.lit 1)))] (.ext (.mk 37 (va [2, 3, 4, 5, 6, 7, 8, 9, 10] ([.ex (.lit 3), .ex (.var 12)]))) (.ret [.var 15, .var 14, .bx (.cmp .eql (.var 7) (.lit 9))]))) .ok)) .ok)
 (.br (.cmp .eql (.var 11) (.lit 3))
 (.and (.call 4 [.ex (.var 8), .ex (.var 12)] (.and (.call 2 [.var 1, .ex (.var 4), .ex (.var 12), .ex (.var 13)] (.br (.var 15)
 (.ext (.mk 37 (va [2, 3, 4, 5, 6] (.ex (.lit 9) :: va [8, 9, 10] ([.ex (.lit 9), .ex (.var 12)])))) (.ret [.var 16, .var 14, .bx (.lit true)]))
 (.ext (.mk 37 (va [2, 3, 4, 5, 6, 7, 8, 9, 10] ([.ex (.lit 1), .ex (.var 12)]))) (.ret [.var 16, .var 14, .bx (.cmp .eql (.var 7) (.lit 9))])))) .ok)) .ok)
 (.br (.cmp .eql (.var 11) (.lit 9))
 (.ext (.mk 37 (va [2, 3, 4, 5, 6] (.ex (.lit 9) :: va [8, 9, 10, 11, 12] []))) (.ret [.var 13, .var 1, .bx (.lit true)]))
 (.ext (.mk 37 (va [2, 3, 4, 5, 6, 7, 8, 9, 10, 11, 12] [])) (.ret [.var 13, .var 1, .bx (.cmp .eql (.var 7) (.lit 9))]))))))
 (.ext (.mk 37 (va [2, 3, 4, 5, 6, 7, 8, 9, 10, 11, 12] [])) (.ret [.var 13, .var 1, .bx (.cmp .eql (.var 7) (.lit 9))])))))))
 (.and (.opn 0 38 (.br (.cmp .eql (.var 7) (.lit 0))
 (Tree.fail "operation")
 (.br (.cmp .eql (.var 7) (.lit 1))
 (.and (.and (.and (.call 0 [.var 1, .ex (.bin .add .i64 (.var 2) (.var 8))] (.and (.call 5 [.ex (.var 15)] (.br (.cmp .eql (.var 16) (.var 10))
 (.br (.cmp .eql (.var 16) (.lit 4))
 (.br (.cmp .eql (.var 17) (.var 12))
 (.ext (.mk 38 (va [2, 3, 4, 5, 6] (.ex (.lit 2) :: va [8, 15, 10, 11, 12, 13] []))) (.ret [.var 19, .var 14, .bx (.lit false)]))
 (.ext (.mk 38 (va [2, 3, 4, 5, 6] (.ex (.lit 9) :: va [8, 15, 10, 11, 12] ([.ex (.lit 11)])))) (.ret [.var 19, .var 14, .bx (.lit true)])))
 (.ext (.mk 38 (va [2, 3, 4, 5, 6] (.ex (.lit 2) :: va [8, 15, 10, 11, 12, 13] []))) (.ret [.var 19, .var 14, .bx (.lit false)])))
 (.ext (.mk 38 (va [2, 3, 4, 5, 6] (.ex (.lit 9) :: va [8, 15, 10, 11, 12] ([.ex (.lit 11)])))) (.ret [.var 19, .var 14, .bx (.lit true)])))) .ok)) .ok) .ok)
 (.and (.and (.and (.call 0 [.var 1, .ex (.bin .add .i64 (.var 2) (.var 8))] (.and (.call 5 [.ex (.var 15)] (.br (.cmp .eql (.var 16) (.var 10))
 (.br (.cmp .eql (.var 16) (.lit 4))
 (.br (.cmp .eql (.var 17) (.var 12))
 (.ext (.mk 38 (va [2, 3, 4, 5, 6] (.ex (.lit 2) :: va [8, 15, 10, 11, 12, 13] []))) (.ret [.var 19, .var 14, .bx (.lit false)]))
 (.ext (.mk 38 (va [2, 3, 4, 5, 6] (.ex (.lit 9) :: va [8, 15, 10, 11, 12] ([.ex (.lit 11)])))) (.ret [.var 19, .var 14, .bx (.lit true)])))
 (.ext (.mk 38 (va [2, 3, 4, 5, 6] (.ex (.lit 2) :: va [8, 15, 10, 11, 12, 13] []))) (.ret [.var 19, .var 14, .bx (.lit false)])))
 (.ext (.mk 38 (va [2, 3, 4, 5, 6] (.ex (.lit 9) :: va [8, 15, 10, 11, 12] ([.ex (.lit 11)])))) (.ret [.var 19, .var 14, .bx (.lit true)])))) .ok)) .ok) .ok) .ok))
 (.br (.cmp .eql (.var 7) (.lit 2))
 (.and (.call 5 [.ex (.var 9)] (.br (.cmp .eql (.var 11) (.lit 2))
 (.and (.call 6 [.ex (.var 11), .ex (.lit 0), .ex (.var 16)] (.and (.call 2 [.var 1, .ex (.bin .add .i64 (.var 2) (.var 8)), .ex (.var 9), .ex (.var 17)] (.br (.var 19)
 (.ext (.mk 38 (va [2, 3, 4, 5, 6] (.ex (.lit 9) :: va [8, 9, 10, 11, 12, 13] []))) (.ret [.var 20, .var 18, .bx (.lit true)]))
 (.ext (.mk 38 (va [2, 3, 4, 5, 6] (.ex (.lit 1) :: va [8, 9, 10, 11, 12, 13] []))) (.ret [.var 20, .var 18, .bx (.lit false)])))) .ok)) .ok)
 (.br (.cmp .eql (.var 11) (.lit 4))
 (.and (.call 6 [.ex (.var 11), .ex (.var 12), .ex (.var 16)] (.and (.call 2 [.var 1, .ex (.bin .add .i64 (.var 2) (.var 8)), .ex (.var 9), .ex (.var 17)] (.br (.var 19)
 (.ext (.mk 38 (va [2, 3, 4, 5, 6] (.ex (.lit 9) :: va [8, 9, 10, 11, 12, 13] []))) (.ret [.var 20, .var 18, .bx (.lit true)]))
 (.ext (.mk 38 (va [2, 3, 4, 5, 6] (.ex (.lit 1) :: va [8, 9, 10, 11, 12, 13] []))) (.ret [.var 20, .var 18, .bx (.lit false)])))) .ok)) .ok)
 (.and (.call 6 [.ex (.var 11), .ex (.lit 0), .ex (.var 16)] (.and (.call 2 [.var 1, .ex (.bin .add .i64 (.var 2) (.var 8)), .ex (.var 9), .ex (.var 17)] (.br (.var 19)
 (.ext (.mk 38 (va [2, 3, 4, 5, 6] (.ex (.lit 9) :: va [8, 9, 10, 11, 12, 13] []))) (.ret [.var 20, .var 18, .bx (.lit true)]))
 (.ext (.mk 38 (va [2, 3, 4, 5, 6] (.ex (.lit 1) :: va [8, 9, 10, 11, 12, 13] []))) (.ret [.var 20, .var 18, .bx (.lit false)])))) .ok)) .ok)))) .ok)
 (.br (.cmp .eql (.var 7) (.lit 3))
 (Tree.fail "operation")
 (.ext (.mk 38 (va [2, 3, 4, 5, 6, 7, 8, 9, 10, 11, 12, 13] [])) (.ret [.var 14, .var 1, .bx (.cmp .eql (.var 7) (.lit 9))])))))))
 (.and (.opn 0 39 (.ext (.mk 39 [.ex (.var 2)]) (.ret [.var 3, .var 1, .bx (.lit true)])))
 (.nomore 0 [35, 36, 37, 38, 39]))))))
theorem rQOStep : runCtr { (cxDq Tryz.prog) with hints := hsQOStep } 20 cQOStep [(0, [35,36,37,38,39])] [(0, [35,36,37,38,39])] = tQOStep := by
  dsimp only [tQOStep, va, List.map_cons, List.map_nil, List.cons_append, List.nil_append]
  kernel_rfl

def hsQKStep : List (Nat × Nat × List Nat) := []
def tQKStep : Tree := (.and (.opn 0 41 (.br (.cmp .eql (.var 4) (.lit 1))
 (.and (.call 1 [.var 1, .ex (.var 2), .ex (.var 3)] (.ext (.mk 41 [.ex (.var 2), .ex (.var 3), .ex (.lit 9), .ex (.var 5)]) (.ret [.var 7, .var 6, .bx (.lit true)]))) .ok)
 (.ext (.mk 41 [.ex (.var 2), .ex (.var 3), .ex (.lit 9), .ex (.var 5)]) (.ret [.var 6, .var 1, .bx (.lit true)]))))
 (.and (.opn 0 42 (.br (.cmp .eql (.var 4) (.lit 1))
 (.call 0 [.var 1, .ex (.var 2)] (.ext (.mk 42 [.ex (.var 2), .ex (.var 7), .ex (.lit 9), .ex (.var 5)]) (.ret [.var 8, .var 6, .bx (.lit true)])))
 (.ext (.mk 42 [.ex (.var 2), .ex (.var 3), .ex (.lit 9), .ex (.var 5)]) (.ret [.var 6, .var 1, .bx (.lit true)]))))
 (.nomore 0 [41, 42])))
theorem rQKStep : runCtr { (cxDq Tryz.prog) with hints := hsQKStep } 20 cQKStep [(0, [41,42])] [(0, [41,42])] = tQKStep := by kernel_rfl

end Go.Proofs.YtdabdbbgaekmdaaGreat
/- Operations of jobs: told; the steps of the program (printed by gen_db.py). -/
namespace Go.Proofs.YtdabdbbgaekmdaaGreat
set_option linter.unusedVariables false
set_option linter.unusedSimpArgs false
set_option linter.unusedSectionVars false
open Go Go.RowKit

theorem ti_n {O : OpSt} (h : ¬ O.line = 9) : [EV.u (U.rop O), .i 0, .i 14] = cQOIdx.out [.u (U.rop O)] := by
  show _ = [EV.u (U.rop O), .i O.index, .i O.told]
  rw [OpSt.index, OpSt.told, if_neg (fun g => h g.1), if_neg h]
theorem ti_e {O : OpSt} (h : O.line = 9) (he : ¬ O.err = 0) : [EV.u (U.rop O), .i 0, .i O.err] = cQOIdx.out [.u (U.rop O)] := by
  show _ = [EV.u (U.rop O), .i O.index, .i O.told]
  rw [OpSt.index, OpSt.told, if_neg (fun g => he g.2), if_pos h]
theorem te_n {O : OpSt} (h : ¬ O.line = 9) : [EV.u (U.rop O), .i 14] = cQOErr.out [.u (U.rop O)] := by
  show _ = [EV.u (U.rop O), .i O.told]
  rw [OpSt.told, if_neg h]
theorem tk_n {ld : Bool} {K : KeySt} (h : ¬ K.line = 9) : [EV.u (U.rkey ld K), .i 14] = cQKErr.out [.u (U.rkey ld K)] := by
  show _ = [EV.u (U.rkey ld K), .i K.told]
  rw [KeySt.told, if_neg h]
theorem tkw_n {K : KeySt} (h : ¬ K.line = 9) : [EV.u (U.rkey true K), .i 0, .i 14] = cQKWd.out [.u (U.rkey true K)] := by
  show _ = [EV.u (U.rkey true K), .i K.word, .i K.told]
  rw [KeySt.word, KeySt.told, if_neg (fun g => h g.1), if_neg h]
theorem tti_e {O : OpSt} (h : O.line = 9) (he : ¬ O.err = 0) : [EV.u (U.take O), .i 0, .i O.err] = cTkIdx.out [.u (U.take O)] := by
  show _ = [EV.u (U.take O), .i O.index, .i O.told]
  rw [OpSt.index, OpSt.told, if_neg (fun g => he g.2), if_pos h]
theorem tki_e {K : KeySt} (h : K.line = 9) (he : ¬ K.err = 0) : [EV.u (U.keyOf K), .i 0, .i K.err] = cKoWd.out [.u (U.keyOf K)] := by
  show _ = [EV.u (U.keyOf K), .i K.word, .i K.told]
  rw [KeySt.word, KeySt.told, if_neg (fun g => he g.2), if_pos h]
theorem tri_e {K : KeySt} (h : K.line = 9) (he : ¬ K.err = 0) : [EV.u (U.rkey true K), .i 0, .i K.err] = cQKWd.out [.u (U.rkey true K)] := by
  show _ = [EV.u (U.rkey true K), .i K.word, .i K.told]
  rw [KeySt.word, KeySt.told, if_neg (fun g => he g.2), if_pos h]
set_option maxRecDepth 10000
set_option maxHeartbeats 8000000 in
theorem vTkIdx (P : Program) (hs : List (Nat × Nat × List Nat)) : ∀ ins, ins.length = cTkIdx.nin → cTkIdx.pre ins → tTkIdx.sat { cxDi P with hints := hs } (ctrR cTkIdx) ins := by
  rintro ins _ ⟨F, rfl⟩
  unfold tTkIdx
  refine st_and (st_opn (T := takA) (by rfl) ?_) (st_and (st_opn (T := takP1) (by rfl) ?_) (st_and (st_opn (T := takP2) (by rfl) ?_) (st_and (st_opn (T := takP3) (by rfl) ?_) (st_and (st_opn (T := takL) (by rfl) ?_) (st_and (st_opn (T := takS) (by rfl) ?_) (st_and (st_opn (T := takE1) (by rfl) ?_) (st_and (st_opn (T := takE2) (by rfl) ?_) (nomore_take))))))))
  (rintro ps hl ⟨st, ks, t, ls, s, rfl, hok⟩ he
   simp only [List.getElem?_cons_zero, takA, takAObj, Option.some.injEq, EV.u.injEq, U.take.injEq] at he
   subst he
   simp only [List.cons_append, List.nil_append]
   skip)
  rotate_left
  (rintro ps hl ⟨st, ks, t, ls, s, pw, pi, pj, rfl, hok⟩ he
   simp only [List.getElem?_cons_zero, takP1, takP1Obj, Option.some.injEq, EV.u.injEq, U.take.injEq] at he
   subst he
   simp only [List.cons_append, List.nil_append]
   skip)
  rotate_left
  (rintro ps hl ⟨st, ks, t, ls, s, pw, pi, pj, rfl, hok⟩ he
   simp only [List.getElem?_cons_zero, takP2, takP2Obj, Option.some.injEq, EV.u.injEq, U.take.injEq] at he
   subst he
   simp only [List.cons_append, List.nil_append]
   skip)
  rotate_left
  (rintro ps hl ⟨st, ks, t, ls, s, pw, pi, pj, rfl, hok⟩ he
   simp only [List.getElem?_cons_zero, takP3, takP3Obj, Option.some.injEq, EV.u.injEq, U.take.injEq] at he
   subst he
   simp only [List.cons_append, List.nil_append]
   skip)
  rotate_left
  (rintro ps hl ⟨st, ks, t, ls, s, i, w, pw, pi, pj, rfl, hok⟩ he
   simp only [List.getElem?_cons_zero, takL, takLObj, Option.some.injEq, EV.u.injEq, U.take.injEq] at he
   subst he
   simp only [List.cons_append, List.nil_append]
   skip)
  rotate_left
  (rintro ps hl ⟨st, ks, t, ls, s, i, w, pw, pi, pj, rfl, hok⟩ he
   simp only [List.getElem?_cons_zero, takS, takSObj, Option.some.injEq, EV.u.injEq, U.take.injEq] at he
   subst he
   simp only [List.cons_append, List.nil_append]
   skip)
  rotate_left
  (rintro ps hl ⟨st, ks, t, ls, s, i, w, e, pw, pi, pj, rfl, hok⟩ he
   simp only [List.getElem?_cons_zero, takE1, takE1Obj, Option.some.injEq, EV.u.injEq, U.take.injEq] at he
   subst he
   simp only [List.cons_append, List.nil_append]
   skip)
  rotate_left
  (rintro ps hl ⟨st, ks, t, ls, s, i, w, pw, pi, pj, rfl, hok⟩ he
   simp only [List.getElem?_cons_zero, takE2, takE2Obj, Option.some.injEq, EV.u.injEq, U.take.injEq] at he
   subst he
   simp only [List.cons_append, List.nil_append]
   skip)
  rotate_left
  all_goals
    repeat' (first
      | (first
        | (with_reducible refine st_need ?_ ?_
           focus (simp only [dn, reduceCtorEq, va_map] <;> first | omega | assumption))
        | (with_reducible refine st_and ?_ ?_)
        | (with_reducible exact st_ok)
        | (with_reducible refine st_br (fun hc => ?_) (fun hc => ?_) <;> (simp only [dn, reduceCtorEq, va_map] at hc) <;> (try (exfalso; first | contradiction | omega)))
        | (refine st_call (by rfl) (by simp only [dn, reduceCtorEq, va_map] <;> rfl) ?_ (by rfl <;> rfl) (by simp only [dn] <;> rfl) ?_
           focus (first | rfl)))
      | (refine st_mk (by rfl) (by simp only [dn, reduceCtorEq, va_map] <;> rfl) ?_ (by simp only [dn] <;> rfl) ?_
         focus first | exact ⟨_, _, _, _, _, rfl, hok⟩ | exact ⟨_, _, _, _, _, _, _, _, rfl, hok⟩ | exact ⟨_, _, _, _, _, _, _, _, _, _, rfl, hok⟩ | exact ⟨_, _, _, _, _, _, _, _, _, _, _, rfl, hok⟩)
      | (refine st_ret (by simp only [dn, reduceCtorEq, va_map] <;> rfl) ?_
         first
           | rfl
           | exact ti_n h9
           | exact te_n h9
           | exact tk_n h9
           | exact tkw_n h9
           | exact ti_e rfl he
           | exact tti_e rfl hok
           | exact tki_e rfl (by assumption)
           | exact tri_e rfl he
           | (subst hc; rfl))
      | fail "no step")
theorem hTkIdx : cTkIdx.Holds objs Tryz.prog := runCtr_holds (X := { cxDi Tryz.prog with hints := hsTkIdx }) objsOk mixed noCts (callable _ Tryz.func73 (by kernel_rfl) (by kernel_rfl)) (by rintro ins _ ⟨_, rfl⟩; rfl) (by rw [rTkIdx]; exact vTkIdx _ _)
set_option maxHeartbeats 8000000 in
theorem vGvErr (P : Program) (hs : List (Nat × Nat × List Nat)) : ∀ ins, ins.length = cGvErr.nin → cGvErr.pre ins → tGvErr.sat { cxDi P with hints := hs } (ctrR cGvErr) ins := by
  rintro ins _ ⟨F, rfl⟩
  unfold tGvErr
  refine st_and (st_opn (T := givA) (by rfl) ?_) (st_and (st_opn (T := givL) (by rfl) ?_) (st_and (st_opn (T := givS) (by rfl) ?_) (st_and (st_opn (T := givP1) (by rfl) ?_) (st_and (st_opn (T := givP2) (by rfl) ?_) (st_and (st_opn (T := givP3) (by rfl) ?_) (st_and (st_opn (T := givE1) (by rfl) ?_) (st_and (st_opn (T := givE2) (by rfl) ?_) (st_and (st_opn (T := givR) (by rfl) ?_) (nomore_give)))))))))
  (rintro ps hl ⟨st, ks, t, ls, s, i, rfl, hok⟩ he
   simp only [List.getElem?_cons_zero, givA, givAObj, Option.some.injEq, EV.u.injEq, U.give.injEq] at he
   subst he
   simp only [List.cons_append, List.nil_append]
   skip)
  rotate_left
  (rintro ps hl ⟨st, ks, t, ls, s, i, w, rfl, hok⟩ he
   simp only [List.getElem?_cons_zero, givL, givLObj, Option.some.injEq, EV.u.injEq, U.give.injEq] at he
   subst he
   simp only [List.cons_append, List.nil_append]
   skip)
  rotate_left
  (rintro ps hl ⟨st, ks, t, ls, s, i, w, rfl, hok⟩ he
   simp only [List.getElem?_cons_zero, givS, givSObj, Option.some.injEq, EV.u.injEq, U.give.injEq] at he
   subst he
   simp only [List.cons_append, List.nil_append]
   skip)
  rotate_left
  (rintro ps hl ⟨st, ks, t, ls, s, i, w, pw, pj, rfl, hok⟩ he
   simp only [List.getElem?_cons_zero, givP1, givP1Obj, Option.some.injEq, EV.u.injEq, U.give.injEq] at he
   subst he
   simp only [List.cons_append, List.nil_append]
   skip)
  rotate_left
  (rintro ps hl ⟨st, ks, t, ls, s, i, w, pw, pj, rfl, hok⟩ he
   simp only [List.getElem?_cons_zero, givP2, givP2Obj, Option.some.injEq, EV.u.injEq, U.give.injEq] at he
   subst he
   simp only [List.cons_append, List.nil_append]
   skip)
  rotate_left
  (rintro ps hl ⟨st, ks, t, ls, s, i, w, pw, pj, rfl, hok⟩ he
   simp only [List.getElem?_cons_zero, givP3, givP3Obj, Option.some.injEq, EV.u.injEq, U.give.injEq] at he
   subst he
   simp only [List.cons_append, List.nil_append]
   skip)
  rotate_left
  (rintro ps hl ⟨st, ks, t, ls, s, i, w, e, rfl, hok⟩ he
   simp only [List.getElem?_cons_zero, givE1, givE1Obj, Option.some.injEq, EV.u.injEq, U.give.injEq] at he
   subst he
   simp only [List.cons_append, List.nil_append]
   skip)
  rotate_left
  (rintro ps hl ⟨st, ks, t, ls, s, i, w, pw, pj, rfl, hok⟩ he
   simp only [List.getElem?_cons_zero, givE2, givE2Obj, Option.some.injEq, EV.u.injEq, U.give.injEq] at he
   subst he
   simp only [List.cons_append, List.nil_append]
   skip)
  rotate_left
  (rintro ps hl ⟨st, ks, t, ls, s, i, e, rfl, hok⟩ he
   simp only [List.getElem?_cons_zero, givR, givRObj, Option.some.injEq, EV.u.injEq, U.give.injEq] at he
   subst he
   simp only [List.cons_append, List.nil_append]
   skip)
  rotate_left
  all_goals
    repeat' (first
      | (first
        | (with_reducible refine st_need ?_ ?_
           focus (simp only [dn, reduceCtorEq, va_map] <;> first | omega | assumption))
        | (with_reducible refine st_and ?_ ?_)
        | (with_reducible exact st_ok)
        | (with_reducible refine st_br (fun hc => ?_) (fun hc => ?_) <;> (simp only [dn, reduceCtorEq, va_map] at hc) <;> (try (exfalso; first | contradiction | omega)))
        | (refine st_call (by rfl) (by simp only [dn, reduceCtorEq, va_map] <;> rfl) ?_ (by rfl <;> rfl) (by simp only [dn] <;> rfl) ?_
           focus (first | rfl)))
      | (refine st_mk (by rfl) (by simp only [dn, reduceCtorEq, va_map] <;> rfl) ?_ (by simp only [dn] <;> rfl) ?_
         focus first | exact ⟨_, _, _, _, _, _, rfl, hok⟩ | exact ⟨_, _, _, _, _, _, _, rfl, hok⟩ | exact ⟨_, _, _, _, _, _, _, _, rfl, hok⟩ | exact ⟨_, _, _, _, _, _, _, _, _, rfl, hok⟩)
      | (refine st_ret (by simp only [dn, reduceCtorEq, va_map] <;> rfl) ?_
         first
           | rfl
           | exact ti_n h9
           | exact te_n h9
           | exact tk_n h9
           | exact tkw_n h9
           | exact ti_e rfl he
           | exact tti_e rfl hok
           | exact tki_e rfl (by assumption)
           | exact tri_e rfl he
           | (subst hc; rfl))
      | fail "no step")
theorem hGvErr : cGvErr.Holds objs Tryz.prog := runCtr_holds (X := { cxDi Tryz.prog with hints := hsGvErr }) objsOk mixed noCts (callable _ Tryz.func36 (by kernel_rfl) (by kernel_rfl)) (by rintro ins _ ⟨_, rfl⟩; rfl) (by rw [rGvErr]; exact vGvErr _ _)
set_option maxHeartbeats 8000000 in
theorem vTuErr (P : Program) (hs : List (Nat × Nat × List Nat)) : ∀ ins, ins.length = cTuErr.nin → cTuErr.pre ins → tTuErr.sat { cxDi P with hints := hs } (ctrR cTuErr) ins := by
  rintro ins _ ⟨F, rfl⟩
  unfold tTuErr
  refine st_and (st_opn (T := turA) (by rfl) ?_) (st_and (st_opn (T := turL) (by rfl) ?_) (st_and (st_opn (T := turS) (by rfl) ?_) (st_and (st_opn (T := turE) (by rfl) ?_) (nomore_turn))))
  (rintro ps hl ⟨st, ks, t, ls, s, i, fr, to, co, rfl, hok⟩ he
   simp only [List.getElem?_cons_zero, turA, turAObj, Option.some.injEq, EV.u.injEq, U.turn.injEq] at he
   subst he
   simp only [List.cons_append, List.nil_append]
   skip)
  rotate_left
  (rintro ps hl ⟨st, ks, t, ls, s, i, w, fr, to, co, rfl, hok⟩ he
   simp only [List.getElem?_cons_zero, turL, turLObj, Option.some.injEq, EV.u.injEq, U.turn.injEq] at he
   subst he
   simp only [List.cons_append, List.nil_append]
   skip)
  rotate_left
  (rintro ps hl ⟨st, ks, t, ls, s, i, w, fr, to, co, rfl, hok⟩ he
   simp only [List.getElem?_cons_zero, turS, turSObj, Option.some.injEq, EV.u.injEq, U.turn.injEq] at he
   subst he
   simp only [List.cons_append, List.nil_append]
   skip)
  rotate_left
  (rintro ps hl ⟨st, ks, t, ls, s, i, w, e, fr, to, co, rfl, hok⟩ he
   simp only [List.getElem?_cons_zero, turE, turEObj, Option.some.injEq, EV.u.injEq, U.turn.injEq] at he
   subst he
   simp only [List.cons_append, List.nil_append]
   skip)
  rotate_left
  all_goals
    repeat' (first
      | (first
        | (with_reducible refine st_need ?_ ?_
           focus (simp only [dn, reduceCtorEq, va_map] <;> first | omega | assumption))
        | (with_reducible refine st_and ?_ ?_)
        | (with_reducible exact st_ok)
        | (with_reducible refine st_br (fun hc => ?_) (fun hc => ?_) <;> (simp only [dn, reduceCtorEq, va_map] at hc) <;> (try (exfalso; first | contradiction | omega)))
        | (refine st_call (by rfl) (by simp only [dn, reduceCtorEq, va_map] <;> rfl) ?_ (by rfl <;> rfl) (by simp only [dn] <;> rfl) ?_
           focus (first | rfl)))
      | (refine st_mk (by rfl) (by simp only [dn, reduceCtorEq, va_map] <;> rfl) ?_ (by simp only [dn] <;> rfl) ?_
         focus first | exact ⟨_, _, _, _, _, _, _, _, _, rfl, hok⟩ | exact ⟨_, _, _, _, _, _, _, _, _, _, rfl, hok⟩ | exact ⟨_, _, _, _, _, _, _, _, _, _, _, rfl, hok⟩)
      | (refine st_ret (by simp only [dn, reduceCtorEq, va_map] <;> rfl) ?_
         first
           | rfl
           | exact ti_n h9
           | exact te_n h9
           | exact tk_n h9
           | exact tkw_n h9
           | exact ti_e rfl he
           | exact tti_e rfl hok
           | exact tki_e rfl (by assumption)
           | exact tri_e rfl he
           | (subst hc; rfl))
      | fail "no step")
theorem hTuErr : cTuErr.Holds objs Tryz.prog := runCtr_holds (X := { cxDi Tryz.prog with hints := hsTuErr }) objsOk mixed noCts (callable _ Tryz.func46 (by kernel_rfl) (by kernel_rfl)) (by rintro ins _ ⟨_, rfl⟩; rfl) (by rw [rTuErr]; exact vTuErr _ _)
set_option maxHeartbeats 8000000 in
theorem vKyErr (P : Program) (hs : List (Nat × Nat × List Nat)) : ∀ ins, ins.length = cKyErr.nin → cKyErr.pre ins → tKyErr.sat { cxDi P with hints := hs } (ctrR cKyErr) ins := by
  rintro ins _ ⟨F, rfl⟩
  unfold tKyErr
  refine st_and (st_opn (T := keyA) (by rfl) ?_) (st_and (st_opn (T := keyE) (by rfl) ?_) (nomore_key))
  (rintro ps hl ⟨st, ks, t, ls, s, i, w, rfl, hok⟩ he
   simp only [List.getElem?_cons_zero, keyA, keyAObj, Option.some.injEq, EV.u.injEq, U.key.injEq] at he
   subst he
   simp only [List.cons_append, List.nil_append]
   skip)
  rotate_left
  (rintro ps hl ⟨st, ks, t, ls, s, i, w, e, rfl, hok⟩ he
   simp only [List.getElem?_cons_zero, keyE, keyEObj, Option.some.injEq, EV.u.injEq, U.key.injEq] at he
   subst he
   simp only [List.cons_append, List.nil_append]
   skip)
  rotate_left
  all_goals
    repeat' (first
      | (first
        | (with_reducible refine st_need ?_ ?_
           focus (simp only [dn, reduceCtorEq, va_map] <;> first | omega | assumption))
        | (with_reducible refine st_and ?_ ?_)
        | (with_reducible exact st_ok)
        | (with_reducible refine st_br (fun hc => ?_) (fun hc => ?_) <;> (simp only [dn, reduceCtorEq, va_map] at hc) <;> (try (exfalso; first | contradiction | omega)))
        | (refine st_call (by rfl) (by simp only [dn, reduceCtorEq, va_map] <;> rfl) ?_ (by rfl <;> rfl) (by simp only [dn] <;> rfl) ?_
           focus (first | rfl)))
      | (refine st_mk (by rfl) (by simp only [dn, reduceCtorEq, va_map] <;> rfl) ?_ (by simp only [dn] <;> rfl) ?_
         focus first | exact ⟨_, _, _, _, _, _, _, rfl, hok⟩ | exact ⟨_, _, _, _, _, _, _, _, rfl, hok⟩)
      | (refine st_ret (by simp only [dn, reduceCtorEq, va_map] <;> rfl) ?_
         first
           | rfl
           | exact ti_n h9
           | exact te_n h9
           | exact tk_n h9
           | exact tkw_n h9
           | exact ti_e rfl he
           | exact tti_e rfl hok
           | exact tki_e rfl (by assumption)
           | exact tri_e rfl he
           | (subst hc; rfl))
      | fail "no step")
theorem hKyErr : cKyErr.Holds objs Tryz.prog := runCtr_holds (X := { cxDi Tryz.prog with hints := hsKyErr }) objsOk mixed noCts (callable _ Tryz.func40 (by kernel_rfl) (by kernel_rfl)) (by rintro ins _ ⟨_, rfl⟩; rfl) (by rw [rKyErr]; exact vKyErr _ _)
set_option maxHeartbeats 8000000 in
theorem vKoWd (P : Program) (hs : List (Nat × Nat × List Nat)) : ∀ ins, ins.length = cKoWd.nin → cKoWd.pre ins → tKoWd.sat { cxDi P with hints := hs } (ctrR cKoWd) ins := by
  rintro ins _ ⟨F, rfl⟩
  unfold tKoWd
  refine st_and (st_opn (T := kofA) (by rfl) ?_) (st_and (st_opn (T := kofE) (by rfl) ?_) (nomore_keyOf))
  (rintro ps hl ⟨st, ks, t, ls, s, i, rfl, hok⟩ he
   simp only [List.getElem?_cons_zero, kofA, kofAObj, Option.some.injEq, EV.u.injEq, U.keyOf.injEq] at he
   subst he
   simp only [List.cons_append, List.nil_append]
   skip)
  rotate_left
  (rintro ps hl ⟨st, ks, t, ls, s, i, w, e, rfl, hok⟩ he
   simp only [List.getElem?_cons_zero, kofE, kofEObj, Option.some.injEq, EV.u.injEq, U.keyOf.injEq] at he
   subst he
   simp only [List.cons_append, List.nil_append]
   skip)
  rotate_left
  all_goals
    repeat' (first
      | (first
        | (with_reducible refine st_need ?_ ?_
           focus (simp only [dn, reduceCtorEq, va_map] <;> first | omega | assumption))
        | (with_reducible refine st_and ?_ ?_)
        | (with_reducible exact st_ok)
        | (with_reducible refine st_br (fun hc => ?_) (fun hc => ?_) <;> (simp only [dn, reduceCtorEq, va_map] at hc) <;> (try (exfalso; first | contradiction | omega)))
        | (refine st_call (by rfl) (by simp only [dn, reduceCtorEq, va_map] <;> rfl) ?_ (by rfl <;> rfl) (by simp only [dn] <;> rfl) ?_
           focus (first | rfl)))
      | (refine st_mk (by rfl) (by simp only [dn, reduceCtorEq, va_map] <;> rfl) ?_ (by simp only [dn] <;> rfl) ?_
         focus first | exact ⟨_, _, _, _, _, _, rfl, hok⟩ | exact ⟨_, _, _, _, _, _, _, _, rfl, hok⟩)
      | (refine st_ret (by simp only [dn, reduceCtorEq, va_map] <;> rfl) ?_
         first
           | rfl
           | exact ti_n h9
           | exact te_n h9
           | exact tk_n h9
           | exact tkw_n h9
           | exact ti_e rfl he
           | exact tti_e rfl hok
           | exact tki_e rfl (by assumption)
           | exact tri_e rfl he
           | (subst hc; rfl))
      | fail "no step")
theorem hKoWd : cKoWd.Holds objs Tryz.prog := runCtr_holds (X := { cxDi Tryz.prog with hints := hsKoWd }) objsOk mixed noCts (callable _ Tryz.func42 (by kernel_rfl) (by kernel_rfl)) (by rintro ins _ ⟨_, rfl⟩; rfl) (by rw [rKoWd]; exact vKoWd _ _)
set_option maxHeartbeats 8000000 in
theorem vQOIdx (P : Program) (hs : List (Nat × Nat × List Nat)) : ∀ ins, ins.length = cQOIdx.nin → cQOIdx.pre ins → tQOIdx.sat { cxDi P with hints := hs } (ctrR cQOIdx) ins := by
  rintro ins _ ⟨F, rfl⟩
  unfold tQOIdx
  refine st_and (st_opn (T := ropT) (by rfl) ?_) (st_and (st_opn (T := ropG1) (by rfl) ?_) (st_and (st_opn (T := ropG2) (by rfl) ?_) (st_and (st_opn (T := ropU) (by rfl) ?_) (st_and (st_opn (T := ropN) (by rfl) ?_) (nomore_rop)))))
  (rintro ps hl ⟨st, ks, t, ls, s, line, i, w, e, pl, pw, pi, pj, rfl, hok⟩ he
   simp only [List.getElem?_cons_zero, ropT, ropTObj, Option.some.injEq, EV.u.injEq, U.rop.injEq] at he
   subst he
   simp only [List.cons_append, List.nil_append]
   rcases (show line = 9 ∧ e = 0 ∨ line = 9 ∧ ¬ e = 0 ∨ ¬ line = 9 by omega) with ⟨rfl, rfl⟩ | ⟨rfl, he⟩ | h9
   all_goals try simp only [reduceIte, Int.reduceEq, Int.reduceSub, not_true_eq_false, not_false_eq_true, and_true, and_false, true_and, false_and, or_false, false_or, or_true, true_or, reduceCtorEq, if_true, if_false, ne_eq])
  rotate_left 3
  (rintro ps hl ⟨st, ks, t, ls, s, line, i, w, e, rfl, hok⟩ he
   simp only [List.getElem?_cons_zero, ropG1, ropG1Obj, Option.some.injEq, EV.u.injEq, U.rop.injEq] at he
   subst he
   simp only [List.cons_append, List.nil_append]
   rcases (show line = 9 ∧ e = 0 ∨ line = 9 ∧ ¬ e = 0 ∨ ¬ line = 9 by omega) with ⟨rfl, rfl⟩ | ⟨rfl, he⟩ | h9
   all_goals try simp only [reduceIte, Int.reduceEq, Int.reduceSub, not_true_eq_false, not_false_eq_true, and_true, and_false, true_and, false_and, or_false, false_or, or_true, true_or, reduceCtorEq, if_true, if_false, ne_eq])
  rotate_left 3
  (rintro ps hl ⟨st, ks, t, ls, s, line, i, w, e, pl, pw, rfl, hok⟩ he
   simp only [List.getElem?_cons_zero, ropG2, ropG2Obj, Option.some.injEq, EV.u.injEq, U.rop.injEq] at he
   subst he
   simp only [List.cons_append, List.nil_append]
   rcases (show line = 9 ∧ e = 0 ∨ line = 9 ∧ ¬ e = 0 ∨ ¬ line = 9 by omega) with ⟨rfl, rfl⟩ | ⟨rfl, he⟩ | h9
   all_goals try simp only [reduceIte, Int.reduceEq, Int.reduceSub, not_true_eq_false, not_false_eq_true, and_true, and_false, true_and, false_and, or_false, false_or, or_true, true_or, reduceCtorEq, if_true, if_false, ne_eq])
  rotate_left 3
  (rintro ps hl ⟨st, ks, t, ls, s, line, i, w, fr, to, co, e, rfl, hok⟩ he
   simp only [List.getElem?_cons_zero, ropU, ropUObj, Option.some.injEq, EV.u.injEq, U.rop.injEq] at he
   subst he
   simp only [List.cons_append, List.nil_append]
   rcases (show line = 9 ∧ e = 0 ∨ line = 9 ∧ ¬ e = 0 ∨ ¬ line = 9 by omega) with ⟨rfl, rfl⟩ | ⟨rfl, he⟩ | h9
   all_goals try simp only [reduceIte, Int.reduceEq, Int.reduceSub, not_true_eq_false, not_false_eq_true, and_true, and_false, true_and, false_and, or_false, false_or, or_true, true_or, reduceCtorEq, if_true, if_false, ne_eq])
  rotate_left 3
  (rintro ps hl ⟨e, rfl, hok⟩ he
   simp only [List.getElem?_cons_zero, ropN, ropNObj, Option.some.injEq, EV.u.injEq, U.rop.injEq] at he
   subst he
   simp only [List.cons_append, List.nil_append]
   have h9 : True := trivial
   have he : ¬ e = 0 := hok
   skip)
  rotate_left
  all_goals
    repeat' (first
      | (first
        | (with_reducible refine st_need ?_ ?_
           focus (simp only [dn, reduceCtorEq, va_map] <;> first | omega | assumption))
        | (with_reducible refine st_and ?_ ?_)
        | (with_reducible exact st_ok)
        | (with_reducible refine st_br (fun hc => ?_) (fun hc => ?_) <;> (simp only [dn, reduceCtorEq, va_map] at hc) <;> (try (exfalso; first | contradiction | omega)))
        | (refine st_call (by rfl) (by simp only [dn, reduceCtorEq, va_map] <;> rfl) ?_ (by rfl <;> rfl) (by simp only [dn] <;> rfl) ?_
           focus (first | rfl)))
      | (refine st_mk (by rfl) (by simp only [dn, reduceCtorEq, va_map] <;> rfl) ?_ (by simp only [dn] <;> rfl) ?_
         focus first | exact ⟨_, rfl, hok⟩ | exact ⟨_, _, _, _, _, _, _, _, _, rfl, hok⟩ | exact ⟨_, _, _, _, _, _, _, _, _, _, _, rfl, hok⟩ | exact ⟨_, _, _, _, _, _, _, _, _, _, _, _, rfl, hok⟩ | exact ⟨_, _, _, _, _, _, _, _, _, _, _, _, _, rfl, hok⟩)
      | (refine st_ret (by simp only [dn, reduceCtorEq, va_map] <;> rfl) ?_
         first
           | rfl
           | exact ti_n h9
           | exact te_n h9
           | exact tk_n h9
           | exact tkw_n h9
           | exact ti_e rfl he
           | exact tti_e rfl hok
           | exact tki_e rfl (by assumption)
           | exact tri_e rfl he
           | (subst hc; rfl))
      | fail "no step")
theorem hQOIdx : cQOIdx.Holds objs Tryz.prog := runCtr_holds (X := { cxDi Tryz.prog with hints := hsQOIdx }) objsOk mixed noCts (callable _ Tryz.func74 (by kernel_rfl) (by kernel_rfl)) (by rintro ins _ ⟨_, rfl⟩; rfl) (by rw [rQOIdx]; exact vQOIdx _ _)
set_option maxHeartbeats 8000000 in
theorem vQOErr (P : Program) (hs : List (Nat × Nat × List Nat)) : ∀ ins, ins.length = cQOErr.nin → cQOErr.pre ins → tQOErr.sat { cxDi P with hints := hs } (ctrR cQOErr) ins := by
  rintro ins _ ⟨F, rfl⟩
  unfold tQOErr
  refine st_and (st_opn (T := ropT) (by rfl) ?_) (st_and (st_opn (T := ropG1) (by rfl) ?_) (st_and (st_opn (T := ropG2) (by rfl) ?_) (st_and (st_opn (T := ropU) (by rfl) ?_) (st_and (st_opn (T := ropN) (by rfl) ?_) (nomore_rop)))))
  (rintro ps hl ⟨st, ks, t, ls, s, line, i, w, e, pl, pw, pi, pj, rfl, hok⟩ he
   simp only [List.getElem?_cons_zero, ropT, ropTObj, Option.some.injEq, EV.u.injEq, U.rop.injEq] at he
   subst he
   simp only [List.cons_append, List.nil_append]
   rcases (show line = 9 ∧ e = 0 ∨ line = 9 ∧ ¬ e = 0 ∨ ¬ line = 9 by omega) with ⟨rfl, rfl⟩ | ⟨rfl, he⟩ | h9
   all_goals try simp only [reduceIte, Int.reduceEq, Int.reduceSub, not_true_eq_false, not_false_eq_true, and_true, and_false, true_and, false_and, or_false, false_or, or_true, true_or, reduceCtorEq, if_true, if_false, ne_eq])
  rotate_left 3
  (rintro ps hl ⟨st, ks, t, ls, s, line, i, w, e, rfl, hok⟩ he
   simp only [List.getElem?_cons_zero, ropG1, ropG1Obj, Option.some.injEq, EV.u.injEq, U.rop.injEq] at he
   subst he
   simp only [List.cons_append, List.nil_append]
   rcases (show line = 9 ∧ e = 0 ∨ line = 9 ∧ ¬ e = 0 ∨ ¬ line = 9 by omega) with ⟨rfl, rfl⟩ | ⟨rfl, he⟩ | h9
   all_goals try simp only [reduceIte, Int.reduceEq, Int.reduceSub, not_true_eq_false, not_false_eq_true, and_true, and_false, true_and, false_and, or_false, false_or, or_true, true_or, reduceCtorEq, if_true, if_false, ne_eq])
  rotate_left 3
  (rintro ps hl ⟨st, ks, t, ls, s, line, i, w, e, pl, pw, rfl, hok⟩ he
   simp only [List.getElem?_cons_zero, ropG2, ropG2Obj, Option.some.injEq, EV.u.injEq, U.rop.injEq] at he
   subst he
   simp only [List.cons_append, List.nil_append]
   rcases (show line = 9 ∧ e = 0 ∨ line = 9 ∧ ¬ e = 0 ∨ ¬ line = 9 by omega) with ⟨rfl, rfl⟩ | ⟨rfl, he⟩ | h9
   all_goals try simp only [reduceIte, Int.reduceEq, Int.reduceSub, not_true_eq_false, not_false_eq_true, and_true, and_false, true_and, false_and, or_false, false_or, or_true, true_or, reduceCtorEq, if_true, if_false, ne_eq])
  rotate_left 3
  (rintro ps hl ⟨st, ks, t, ls, s, line, i, w, fr, to, co, e, rfl, hok⟩ he
   simp only [List.getElem?_cons_zero, ropU, ropUObj, Option.some.injEq, EV.u.injEq, U.rop.injEq] at he
   subst he
   simp only [List.cons_append, List.nil_append]
   rcases (show line = 9 ∧ e = 0 ∨ line = 9 ∧ ¬ e = 0 ∨ ¬ line = 9 by omega) with ⟨rfl, rfl⟩ | ⟨rfl, he⟩ | h9
   all_goals try simp only [reduceIte, Int.reduceEq, Int.reduceSub, not_true_eq_false, not_false_eq_true, and_true, and_false, true_and, false_and, or_false, false_or, or_true, true_or, reduceCtorEq, if_true, if_false, ne_eq])
  rotate_left 3
  (rintro ps hl ⟨e, rfl, hok⟩ he
   simp only [List.getElem?_cons_zero, ropN, ropNObj, Option.some.injEq, EV.u.injEq, U.rop.injEq] at he
   subst he
   simp only [List.cons_append, List.nil_append]
   have h9 : True := trivial
   have he : ¬ e = 0 := hok
   skip)
  rotate_left
  all_goals
    repeat' (first
      | (first
        | (with_reducible refine st_need ?_ ?_
           focus (simp only [dn, reduceCtorEq, va_map] <;> first | omega | assumption))
        | (with_reducible refine st_and ?_ ?_)
        | (with_reducible exact st_ok)
        | (with_reducible refine st_br (fun hc => ?_) (fun hc => ?_) <;> (simp only [dn, reduceCtorEq, va_map] at hc) <;> (try (exfalso; first | contradiction | omega)))
        | (refine st_call (by rfl) (by simp only [dn, reduceCtorEq, va_map] <;> rfl) ?_ (by rfl <;> rfl) (by simp only [dn] <;> rfl) ?_
           focus (first | rfl)))
      | (refine st_mk (by rfl) (by simp only [dn, reduceCtorEq, va_map] <;> rfl) ?_ (by simp only [dn] <;> rfl) ?_
         focus first | exact ⟨_, rfl, hok⟩ | exact ⟨_, _, _, _, _, _, _, _, _, rfl, hok⟩ | exact ⟨_, _, _, _, _, _, _, _, _, _, _, rfl, hok⟩ | exact ⟨_, _, _, _, _, _, _, _, _, _, _, _, rfl, hok⟩ | exact ⟨_, _, _, _, _, _, _, _, _, _, _, _, _, rfl, hok⟩)
      | (refine st_ret (by simp only [dn, reduceCtorEq, va_map] <;> rfl) ?_
         first
           | rfl
           | exact ti_n h9
           | exact te_n h9
           | exact tk_n h9
           | exact tkw_n h9
           | exact ti_e rfl he
           | exact tti_e rfl hok
           | exact tki_e rfl (by assumption)
           | exact tri_e rfl he
           | (subst hc; rfl))
      | fail "no step")
theorem hQOErr : cQOErr.Holds objs Tryz.prog := runCtr_holds (X := { cxDi Tryz.prog with hints := hsQOErr }) objsOk mixed noCts (callable _ Tryz.func75 (by kernel_rfl) (by kernel_rfl)) (by rintro ins _ ⟨_, rfl⟩; rfl) (by rw [rQOErr]; exact vQOErr _ _)
set_option maxHeartbeats 8000000 in
theorem vQKErr (P : Program) (hs : List (Nat × Nat × List Nat)) : ∀ ins, ins.length = cQKErr.nin → cQKErr.pre ins → tQKErr.sat { cxDi P with hints := hs } (ctrR cQKErr) ins := by
  rintro ins _ ⟨ld, F, rfl⟩
  unfold tQKErr
  refine st_and (st_opn (T := rkeyS) (by rfl) ?_) (st_and (st_opn (T := rkeyL) (by rfl) ?_) (nomore_rkey))
  (rintro ps hl ⟨at_, w, line, e, rfl, hok⟩ he
   simp only [List.getElem?_cons_zero, rkeyS, rkeySObj, Option.some.injEq, EV.u.injEq, U.rkey.injEq] at he
   obtain ⟨rfl, rfl⟩ := he
   simp only [List.cons_append, List.nil_append]
   rcases (show line = 9 ∧ e = 0 ∨ line = 9 ∧ ¬ e = 0 ∨ ¬ line = 9 by omega) with ⟨rfl, rfl⟩ | ⟨rfl, he⟩ | h9
   all_goals try simp only [reduceIte, Int.reduceEq, Int.reduceSub, not_true_eq_false, not_false_eq_true, and_true, and_false, true_and, false_and, or_false, false_or, or_true, true_or, reduceCtorEq, if_true, if_false, ne_eq])
  rotate_left 3
  (rintro ps hl ⟨at_, w, line, e, rfl, hok⟩ he
   simp only [List.getElem?_cons_zero, rkeyL, rkeyLObj, Option.some.injEq, EV.u.injEq, U.rkey.injEq] at he
   obtain ⟨rfl, rfl⟩ := he
   simp only [List.cons_append, List.nil_append]
   rcases (show line = 9 ∧ e = 0 ∨ line = 9 ∧ ¬ e = 0 ∨ ¬ line = 9 by omega) with ⟨rfl, rfl⟩ | ⟨rfl, he⟩ | h9
   all_goals try simp only [reduceIte, Int.reduceEq, Int.reduceSub, not_true_eq_false, not_false_eq_true, and_true, and_false, true_and, false_and, or_false, false_or, or_true, true_or, reduceCtorEq, if_true, if_false, ne_eq])
  rotate_left 3
  all_goals
    repeat' (first
      | (first
        | (with_reducible refine st_need ?_ ?_
           focus (simp only [dn, reduceCtorEq, va_map] <;> first | omega | assumption))
        | (with_reducible refine st_and ?_ ?_)
        | (with_reducible exact st_ok)
        | (with_reducible refine st_br (fun hc => ?_) (fun hc => ?_) <;> (simp only [dn, reduceCtorEq, va_map] at hc) <;> (try (exfalso; first | contradiction | omega)))
        | (refine st_call (by rfl) (by simp only [dn, reduceCtorEq, va_map] <;> rfl) ?_ (by rfl <;> rfl) (by simp only [dn] <;> rfl) ?_
           focus (first | rfl)))
      | (refine st_mk (by rfl) (by simp only [dn, reduceCtorEq, va_map] <;> rfl) ?_ (by simp only [dn] <;> rfl) ?_
         focus first | exact ⟨_, _, _, _, rfl, hok⟩)
      | (refine st_ret (by simp only [dn, reduceCtorEq, va_map] <;> rfl) ?_
         first
           | rfl
           | exact ti_n h9
           | exact te_n h9
           | exact tk_n h9
           | exact tkw_n h9
           | exact ti_e rfl he
           | exact tti_e rfl hok
           | exact tki_e rfl (by assumption)
           | exact tri_e rfl he
           | (subst hc; rfl))
      | fail "no step")
theorem hQKErr : cQKErr.Holds objs Tryz.prog := runCtr_holds (X := { cxDi Tryz.prog with hints := hsQKErr }) objsOk mixed noCts (callable _ Tryz.func76 (by kernel_rfl) (by kernel_rfl)) (by rintro ins _ ⟨_, _, rfl⟩; rfl) (by rw [rQKErr]; exact vQKErr _ _)
set_option maxHeartbeats 8000000 in
theorem vQKWd (P : Program) (hs : List (Nat × Nat × List Nat)) : ∀ ins, ins.length = cQKWd.nin → cQKWd.pre ins → tQKWd.sat { cxDi P with hints := hs } (ctrR cQKWd) ins := by
  rintro ins _ ⟨F, rfl⟩
  unfold tQKWd
  refine st_and (st_opn (T := rkeyS) (by rfl) ?_) (st_and (st_opn (T := rkeyL) (by rfl) ?_) (nomore_rkey))
  (rintro ps hl ⟨at_, w, line, e, rfl, hok⟩ he
   simp only [List.getElem?_cons_zero, rkeyS, rkeySObj, Option.some.injEq, EV.u.injEq, U.rkey.injEq, Bool.true_eq_false, false_and, reduceCtorEq] at he)
  (rintro ps hl ⟨at_, w, line, e, rfl, hok⟩ he
   simp only [List.getElem?_cons_zero, rkeyL, rkeyLObj, Option.some.injEq, EV.u.injEq, U.rkey.injEq] at he
   obtain ⟨_, rfl⟩ := he
   simp only [List.cons_append, List.nil_append]
   rcases (show line = 9 ∧ e = 0 ∨ line = 9 ∧ ¬ e = 0 ∨ ¬ line = 9 by omega) with ⟨rfl, rfl⟩ | ⟨rfl, he⟩ | h9
   all_goals try simp only [reduceIte, Int.reduceEq, Int.reduceSub, not_true_eq_false, not_false_eq_true, and_true, and_false, true_and, false_and, or_false, false_or, or_true, true_or, reduceCtorEq, if_true, if_false, ne_eq])
  rotate_left 3
  all_goals
    repeat' (first
      | (first
        | (with_reducible refine st_need ?_ ?_
           focus (simp only [dn, reduceCtorEq, va_map] <;> first | omega | assumption))
        | (with_reducible refine st_and ?_ ?_)
        | (with_reducible exact st_ok)
        | (with_reducible refine st_br (fun hc => ?_) (fun hc => ?_) <;> (simp only [dn, reduceCtorEq, va_map] at hc) <;> (try (exfalso; first | contradiction | omega)))
        | (refine st_call (by rfl) (by simp only [dn, reduceCtorEq, va_map] <;> rfl) ?_ (by rfl <;> rfl) (by simp only [dn] <;> rfl) ?_
           focus (first | rfl)))
      | (refine st_mk (by rfl) (by simp only [dn, reduceCtorEq, va_map] <;> rfl) ?_ (by simp only [dn] <;> rfl) ?_
         focus first | exact ⟨_, _, _, _, rfl, hok⟩)
      | (refine st_ret (by simp only [dn, reduceCtorEq, va_map] <;> rfl) ?_
         first
           | rfl
           | exact ti_n h9
           | exact te_n h9
           | exact tk_n h9
           | exact tkw_n h9
           | exact ti_e rfl he
           | exact tti_e rfl hok
           | exact tki_e rfl (by assumption)
           | exact tri_e rfl he
           | (subst hc; rfl))
      | fail "no step")
theorem hQKWd : cQKWd.Holds objs Tryz.prog := runCtr_holds (X := { cxDi Tryz.prog with hints := hsQKWd }) objsOk mixed noCts (callable _ Tryz.func77 (by kernel_rfl) (by kernel_rfl)) (by rintro ins _ ⟨_, rfl⟩; rfl) (by rw [rQKWd]; exact vQKWd _ _)
end Go.Proofs.YtdabdbbgaekmdaaGreat
