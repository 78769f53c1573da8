/- The ways of the runs, as a program of ours printed them. -/
import Derived.Test.YtdabdbbgaekmdaaGreatB3O
import Derived.KernelRfl
namespace Go.Proofs.YtdabdbbgaekmdaaGreat
set_option linter.unusedVariables false
set_option linter.unusedSimpArgs false
set_option linter.unusedSectionVars false
open Go
set_option maxRecDepth 100000
def hsTkStep : List (Nat × Nat × List Nat) := []
def tTkStep : Tree := (.and (.opn 0 5 (.and (.and (.call 0 [.var 1, .ex (.var 4)] (.and (.call 5 [.ex (.var 4), .ex (.var 5), .ex (.var 6), .ex (.var 8)] (.br (.cmp .lss (.var 9) (.lit 0))
 (.and (.and (.ext (.mk 11 (va [2, 3, 4, 5, 6] ([.ex (.lit 0), .ex (.lit 0), .ex (.lit 7), .ex (.var 8), .ex (.var 9), .ex (.lit 0)]))) (.ret [.var 10, .var 7, .bx (.lit true)])) .ok) .ok)
 (.and (.ext (.mk 7 (va [2, 3, 4, 5, 6, 8, 9] ([.ex (.lit 0)]))) (.ret [.var 10, .var 7, .bx (.lit false)])) .ok))) .ok)) .ok) .ok))
 (.and (.opn 0 6 (.and (.and (.call 0 [.var 1, .ex (.var 4)] (.and (.call 5 [.ex (.var 4), .ex (.var 5), .ex (.var 6), .ex (.var 11)] (.br (.cmp .lss (.var 12) (.lit 0))
 (.and (.and (.ext (.mk 11 (va [2, 3, 4, 5, 6] (.ex (.lit 0) :: .ex (.lit 0) :: .ex (.lit 7) :: va [11, 12, 9] []))) (.ret [.var 13, .var 10, .bx (.lit true)])) .ok) .ok)
 (.and (.ext (.mk 7 (va [2, 3, 4, 5, 6, 11, 12, 9] [])) (.ret [.var 13, .var 10, .bx (.lit false)])) .ok))) .ok)) .ok) .ok))
 (.and (.opn 0 7 (.and (.and (.and (.and (.and (.call 0 [.var 1, .ex (.bin .add .i64 (.var 5) (.var 8))] (.and (.call 5 [.ex (.var 4), .ex (.var 5), .ex (.var 6), .ex (.var 11)] (.and (.and (.ext (.mk 8 (va [2, 3, 4, 5, 6, 7, 8, 12] [])) (.ret [.var 13, .var 10, .bx (.lit false)])) .ok) .ok)) .ok)) .ok) .ok)
 (.and (.and (.and (.call 0 [.var 1, .ex (.bin .add .i64 (.var 5) (.var 8))] (.and (.call 5 [.ex (.var 4), .ex (.var 5), .ex (.var 6), .ex (.var 11)] (.and (.and (.ext (.mk 8 (va [2, 3, 4, 5, 6, 7, 8, 12] [])) (.ret [.var 13, .var 10, .bx (.lit false)])) .ok) .ok)) .ok)) .ok) .ok) .ok))
 (.and (.and (.and (.and (.call 0 [.var 1, .ex (.bin .add .i64 (.var 5) (.var 8))] (.and (.call 5 [.ex (.var 4), .ex (.var 5), .ex (.var 6), .ex (.var 11)] (.and (.and (.ext (.mk 8 (va [2, 3, 4, 5, 6, 7, 8, 12] [])) (.ret [.var 13, .var 10, .bx (.lit false)])) .ok) .ok)) .ok)) .ok) .ok)
 (.and (.and (.and (.call 0 [.var 1, .ex (.bin .add .i64 (.var 5) (.var 8))] (.and (.call 5 [.ex (.var 4), .ex (.var 5), .ex (.var 6), .ex (.var 11)] (.and (.and (.ext (.mk 8 (va [2, 3, 4, 5, 6, 7, 8, 12] [])) (.ret [.var 13, .var 10, .bx (.lit false)])) .ok) .ok)) .ok)) .ok)
 (.and (.call 0 [.var 1, .ex (.bin .add .i64 (.var 5) (.var 8))] (.and (.and (.call 5 [.ex (.var 4), .ex (.var 5), .ex (.var 6), .ex (.var 11)] (.and (.and (.ext (.mk 8 (va [2, 3, 4, 5, 6, 7, 8, 12] [])) (.ret [.var 13, .var 10, .bx (.lit false)])) .ok) .ok)) .ok) .ok)) .ok)) .ok))
 (.and (.and (.and (.and (.call 0 [.var 1, .ex (.bin .add .i64 (.var 5) (.var 8))] (.and (.call 5 [.ex (.var 4), .ex (.var 5), .ex (.var 6), .ex (.var 11)] (.and (.and (.ext (.mk 8 (va [2, 3, 4, 5, 6, 7, 8, 12] [])) (.ret [.var 13, .var 10, .bx (.lit false)])) .ok) .ok)) .ok)) .ok) .ok)
 (.and (.and (.and (.call 0 [.var 1, .ex (.bin .add .i64 (.var 5) (.var 8))] (.and (.call 5 [.ex (.var 4), .ex (.var 5), .ex (.var 6), .ex (.var 11)] (.and (.and (.ext (.mk 8 (va [2, 3, 4, 5, 6, 7, 8, 12] [])) (.ret [.var 13, .var 10, .bx (.lit false)])) .ok) .ok)) .ok)) .ok)
 (.and (.call 0 [.var 1, .ex (.bin .add .i64 (.var 5) (.var 8))] (.and (.and (.call 5 [.ex (.var 4), .ex (.var 5), .ex (.var 6), .ex (.var 11)] (.and (.and (.ext (.mk 8 (va [2, 3, 4, 5, 6, 7, 8, 12] [])) (.ret [.var 13, .var 10, .bx (.lit false)])) .ok) .ok)) .ok) .ok)) .ok)) .ok)) .ok))) .ok))
 (.and (.opn 0 8 (.and (.and (.and (.call 3 [.ex (.var 7)] (.call 4 [.ex (.var 9), .ex (.bin .and .i64 (.bin .add .i64 (.var 11) (.lit 1)) (.lit 281474976710655))] (.and (.call 2 [.var 1, .ex (.var 4), .ex (.var 7), .ex (.var 12)] (.br (.var 15)
 (.and (.and (.ext (.mk 9 (va [2, 3, 4, 5, 6, 8] (.ex (.lit 0) :: va [7, 8, 9] []))) (.ret [.var 16, .var 14, .bx (.lit false)])) .ok) .ok)
 (.and (.ext (.mk 6 (va [2, 3, 4, 5, 6, 7, 8, 9] [])) (.ret [.var 16, .var 14, .bx (.lit false)])) .ok))) .ok))) .ok) .ok) .ok))
 (.and (.opn 0 9 (.and (.and (.and (.and (.and (.call 0 [.var 1, .ex (.bin .add .i64 (.var 2) (.var 7))] (.and (.call 6 [.ex (.var 13)] (.and (.and (.ext (.mk 10 (va [2, 3, 4, 5, 6, 7, 13, 9, 10, 11] [])) (.ret [.var 17, .var 12, .bx (.lit false)])) .ok) .ok)) .ok)) .ok) .ok)
 (.and (.and (.and (.call 0 [.var 1, .ex (.bin .add .i64 (.var 2) (.var 7))] (.and (.call 6 [.ex (.var 13)] (.and (.and (.ext (.mk 10 (va [2, 3, 4, 5, 6, 7, 13, 9, 10, 11] [])) (.ret [.var 17, .var 12, .bx (.lit false)])) .ok) .ok)) .ok)) .ok) .ok) .ok)) .ok) .ok))
 (.and (.opn 0 10 (.and (.and (.call 6 [.ex (.var 8)] (.and (.call 7 [.ex (.lit 2), .ex (.lit 0), .ex (.bin .and .i64 (.bin .add .i64 (.var 14) (.lit 1)) (.lit 4294967295))] (.and (.call 2 [.var 1, .ex (.bin .add .i64 (.var 2) (.var 7)), .ex (.var 8), .ex (.var 15)] (.br (.var 17)
 (.and (.and (.ext (.mk 12 (va [2, 3, 4, 5, 6, 7, 8, 9, 10, 11] [])) (.ret [.var 18, .var 16, .bx (.lit true)])) .ok) .ok)
 (.and (.and (.ext (.mk 9 (va [2, 3, 4, 5, 6, 7, 8, 9, 10, 11] [])) (.ret [.var 18, .var 16, .bx (.lit false)])) .ok) .ok))) .ok)) .ok)) .ok) .ok))
 (.and (.opn 0 11 (.ext (.mk 11 (va [2, 3, 4, 5, 6, 7, 8, 9, 10, 11, 12] [])) (.ret [.var 13, .var 1, .bx (.lit true)])))
 (.and (.opn 0 12 (.ext (.mk 12 (va [2, 3, 4, 5, 6, 7, 8, 9, 10, 11] [])) (.ret [.var 12, .var 1, .bx (.lit true)])))
 (.nomore 0 [5, 6, 7, 8, 9, 10, 11, 12])))))))))
theorem rTkStep : runCtr { (cxDp Tryz.prog) with hints := hsTkStep } 20 cTkStep [(0, [5,6,7,8,9,10,11,12])] [(0, [5,6,7,8,9,10,11,12])] = tTkStep := by
  dsimp only [tTkStep, va, List.map_cons, List.map_nil, List.cons_append, List.nil_append]
  kernel_rfl
def hsGvStep : List (Nat × Nat × List Nat) := []
def tGvStep : Tree := (.and (.opn 0 14 (.and (.and (.and (.and (.and (.call 0 [.var 1, .ex (.bin .add .i64 (.var 2) (.var 7))] (.and (.call 6 [.ex (.var 9)] (.br (.cmp .eql (.var 10) (.lit 5))
 (.and (.and (.ext (.mk 16 (va [2, 3, 4, 5, 6, 7, 9] [])) (.ret [.var 13, .var 8, .bx (.lit false)])) .ok) .ok)
 (.br (.cmp .eql (.var 10) (.lit 2))
 (.and (.and (.ext (.mk 16 (va [2, 3, 4, 5, 6, 7, 9] [])) (.ret [.var 13, .var 8, .bx (.lit false)])) .ok) .ok)
 (.and (.and (.ext (.mk 20 (va [2, 3, 4, 5, 6, 7, 9] ([.ex (.lit 11)]))) (.ret [.var 13, .var 8, .bx (.lit true)])) .ok) .ok)))) .ok)) .ok) .ok)
 (.and (.and (.and (.call 0 [.var 1, .ex (.bin .add .i64 (.var 2) (.var 7))] (.and (.call 6 [.ex (.var 9)] (.br (.cmp .eql (.var 10) (.lit 5))
 (.and (.and (.ext (.mk 16 (va [2, 3, 4, 5, 6, 7, 9] [])) (.ret [.var 13, .var 8, .bx (.lit false)])) .ok) .ok)
 (.br (.cmp .eql (.var 10) (.lit 2))
 (.and (.and (.ext (.mk 16 (va [2, 3, 4, 5, 6, 7, 9] [])) (.ret [.var 13, .var 8, .bx (.lit false)])) .ok) .ok)
 (.and (.and (.ext (.mk 20 (va [2, 3, 4, 5, 6, 7, 9] ([.ex (.lit 11)]))) (.ret [.var 13, .var 8, .bx (.lit true)])) .ok) .ok)))) .ok)) .ok) .ok) .ok)) .ok) .ok))
 (.and (.opn 0 15 (.and (.and (.and (.and (.and (.call 0 [.var 1, .ex (.bin .add .i64 (.var 2) (.var 7))] (.and (.call 6 [.ex (.var 10)] (.br (.cmp .eql (.var 11) (.lit 5))
 (.and (.and (.ext (.mk 16 (va [2, 3, 4, 5, 6, 7, 10] [])) (.ret [.var 14, .var 9, .bx (.lit false)])) .ok) .ok)
 (.br (.cmp .eql (.var 11) (.lit 2))
 (.and (.and (.ext (.mk 16 (va [2, 3, 4, 5, 6, 7, 10] [])) (.ret [.var 14, .var 9, .bx (.lit false)])) .ok) .ok)
 (.and (.and (.ext (.mk 20 (va [2, 3, 4, 5, 6, 7, 10] ([.ex (.lit 11)]))) (.ret [.var 14, .var 9, .bx (.lit true)])) .ok) .ok)))) .ok)) .ok) .ok)
 (.and (.and (.and (.call 0 [.var 1, .ex (.bin .add .i64 (.var 2) (.var 7))] (.and (.call 6 [.ex (.var 10)] (.br (.cmp .eql (.var 11) (.lit 5))
 (.and (.and (.ext (.mk 16 (va [2, 3, 4, 5, 6, 7, 10] [])) (.ret [.var 14, .var 9, .bx (.lit false)])) .ok) .ok)
 (.br (.cmp .eql (.var 11) (.lit 2))
 (.and (.and (.ext (.mk 16 (va [2, 3, 4, 5, 6, 7, 10] [])) (.ret [.var 14, .var 9, .bx (.lit false)])) .ok) .ok)
 (.and (.and (.ext (.mk 20 (va [2, 3, 4, 5, 6, 7, 10] ([.ex (.lit 11)]))) (.ret [.var 14, .var 9, .bx (.lit true)])) .ok) .ok)))) .ok)) .ok) .ok) .ok)) .ok) .ok))
 (.and (.opn 0 16 (.and (.and (.call 6 [.ex (.var 8)] (.and (.call 7 [.ex (.lit 1), .ex (.lit 0), .ex (.bin .and .i64 (.bin .add .i64 (.var 11) (.lit 0)) (.lit 4294967295))] (.and (.call 2 [.var 1, .ex (.bin .add .i64 (.var 2) (.var 7)), .ex (.var 8), .ex (.var 12)] (.br (.var 14)
 (.and (.and (.ext (.mk 17 (va [2, 3, 4, 5, 6, 7, 8] ([.ex (.lit 0), .ex (.lit 0)]))) (.ret [.var 15, .var 13, .bx (.lit false)])) .ok) .ok)
 (.and (.and (.ext (.mk 15 (va [2, 3, 4, 5, 6, 7, 8] [])) (.ret [.var 15, .var 13, .bx (.lit false)])) .ok) .ok))) .ok)) .ok)) .ok) .ok))
 (.and (.opn 0 17 (.and (.call 0 [.var 1, .ex (.var 4)] (.and (.call 5 [.ex (.var 4), .ex (.var 5), .ex (.var 6), .ex (.var 12)] (.and (.ext (.mk 18 (va [2, 3, 4, 5, 6, 7, 8, 12, 13] [])) (.ret [.var 14, .var 11, .bx (.lit false)])) .ok)) .ok)) .ok))
 (.and (.opn 0 18 (.and (.and (.call 4 [.ex (.var 10), .ex (.lit 0)] (.and (.call 1 [.var 1, .ex (.bin .add .i64 (.var 5) (.var 7)), .ex (.var 11)] (.and (.ext (.mk 19 (va [2, 3, 4, 5, 6, 7, 8, 9, 10] [])) (.ret [.var 14, .var 13, .bx (.lit false)])) .ok)) .ok)) .ok) .ok))
 (.and (.opn 0 19 (.and (.and (.and (.call 3 [.ex (.var 9)] (.call 4 [.ex (.var 7), .ex (.bin .and .i64 (.bin .add .i64 (.var 12) (.lit 1)) (.lit 281474976710655))] (.and (.call 2 [.var 1, .ex (.var 4), .ex (.var 9), .ex (.var 13)] (.br (.var 16)
 (.and (.and (.ext (.mk 21 (va [2, 3, 4, 5, 6, 7, 8, 9, 10] [])) (.ret [.var 17, .var 15, .bx (.lit true)])) .ok) .ok)
 (.and (.ext (.mk 17 (va [2, 3, 4, 5, 6, 7, 8, 9, 10] [])) (.ret [.var 17, .var 15, .bx (.lit false)])) .ok))) .ok))) .ok) .ok) .ok))
 (.and (.opn 0 20 (.ext (.mk 20 (va [2, 3, 4, 5, 6, 7, 8, 9] [])) (.ret [.var 10, .var 1, .bx (.lit true)])))
 (.and (.opn 0 21 (.ext (.mk 21 (va [2, 3, 4, 5, 6, 7, 8, 9, 10] [])) (.ret [.var 11, .var 1, .bx (.lit true)])))
 (.and (.opn 0 22 (.ext (.mk 22 (va [2, 3, 4, 5, 6, 7, 8] [])) (.ret [.var 9, .var 1, .bx (.lit true)])))
 (.nomore 0 [14, 15, 16, 17, 18, 19, 20, 21, 22]))))))))))
theorem rGvStep : runCtr { (cxDp Tryz.prog) with hints := hsGvStep } 20 cGvStep [(0, [14,15,16,17,18,19,20,21,22])] [(0, [14,15,16,17,18,19,20,21,22])] = tGvStep := by
  dsimp only [tGvStep, va, List.map_cons, List.map_nil, List.cons_append, List.nil_append]
  kernel_rfl
def hsTuStep : List (Nat × Nat × List Nat) := []
def tTuStep : Tree := (.and (.opn 0 24 (.and (.and (.and (.and (.and (.call 0 [.var 1, .ex (.bin .add .i64 (.var 2) (.var 7))] (.and (.call 6 [.ex (.var 12)] (.br (.cmp .eql (.var 13) (.var 8))
 (.br (.cmp .eql (.var 13) (.lit 4))
 (.and (.call 6 [.ex (.var 12)] (.br (.cmp .eql (.var 17) (.var 10))
 (.and (.and (.ext (.mk 26 (va [2, 3, 4, 5, 6, 7, 12, 8, 9, 10] [])) (.ret [.var 19, .var 11, .bx (.lit false)])) .ok) .ok)
 (.and (.and (.ext (.mk 27 (va [2, 3, 4, 5, 6, 7, 12] (.ex (.lit 11) :: va [8, 9, 10] []))) (.ret [.var 19, .var 11, .bx (.lit true)])) .ok) .ok))) .ok)
 (.and (.and (.ext (.mk 26 (va [2, 3, 4, 5, 6, 7, 12, 8, 9, 10] [])) (.ret [.var 16, .var 11, .bx (.lit false)])) .ok) .ok))
 (.and (.and (.ext (.mk 27 (va [2, 3, 4, 5, 6, 7, 12] (.ex (.lit 11) :: va [8, 9, 10] []))) (.ret [.var 16, .var 11, .bx (.lit true)])) .ok) .ok))) .ok)) .ok) .ok)
 (.and (.and (.and (.call 0 [.var 1, .ex (.bin .add .i64 (.var 2) (.var 7))] (.and (.call 6 [.ex (.var 12)] (.br (.cmp .eql (.var 13) (.var 8))
 (.br (.cmp .eql (.var 13) (.lit 4))
 (.and (.call 6 [.ex (.var 12)] (.br (.cmp .eql (.var 17) (.var 10))
 (.and (.and (.ext (.mk 26 (va [2, 3, 4, 5, 6, 7, 12, 8, 9, 10] [])) (.ret [.var 19, .var 11, .bx (.lit false)])) .ok) .ok)
 (.and (.and (.ext (.mk 27 (va [2, 3, 4, 5, 6, 7, 12] (.ex (.lit 11) :: va [8, 9, 10] []))) (.ret [.var 19, .var 11, .bx (.lit true)])) .ok) .ok))) .ok)
 (.and (.and (.ext (.mk 26 (va [2, 3, 4, 5, 6, 7, 12, 8, 9, 10] [])) (.ret [.var 16, .var 11, .bx (.lit false)])) .ok) .ok))
 (.and (.and (.ext (.mk 27 (va [2, 3, 4, 5, 6, 7, 12] (.ex (.lit 11) :: va [8, 9, 10] []))) (.ret [.var 16, .var 11, .bx (.lit true)])) .ok) .ok))) .ok)) .ok) .ok) .ok)) .ok) .ok))
 (.and (.opn 0 25 (.and (.and (.and (.and (.and (.call 0 [.var 1, .ex (.bin .add .i64 (.var 2) (.var 7))] (.and (.call 6 [.ex (.var 13)] (.br (.cmp .eql (.var 14) (.var 9))
 (.br (.cmp .eql (.var 14) (.lit 4))
 (.and (.call 6 [.ex (.var 13)] (.br (.cmp .eql (.var 18) (.var 11))
 (.and (.and (.ext (.mk 26 (va [2, 3, 4, 5, 6, 7, 13, 9, 10, 11] [])) (.ret [.var 20, .var 12, .bx (.lit false)])) .ok) .ok)
 (.and (.and (.ext (.mk 27 (va [2, 3, 4, 5, 6, 7, 13] (.ex (.lit 11) :: va [9, 10, 11] []))) (.ret [.var 20, .var 12, .bx (.lit true)])) .ok) .ok))) .ok)
 (.and (.and (.ext (.mk 26 (va [2, 3, 4, 5, 6, 7, 13, 9, 10, 11] [])) (.ret [.var 17, .var 12, .bx (.lit false)])) .ok) .ok))
 (.and (.and (.ext (.mk 27 (va [2, 3, 4, 5, 6, 7, 13] (.ex (.lit 11) :: va [9, 10, 11] []))) (.ret [.var 17, .var 12, .bx (.lit true)])) .ok) .ok))) .ok)) .ok) .ok)
 (.and (.and (.and (.call 0 [.var 1, .ex (.bin .add .i64 (.var 2) (.var 7))] (.and (.call 6 [.ex (.var 13)] (.br (.cmp .eql (.var 14) (.var 9))
 (.br (.cmp .eql (.var 14) (.lit 4))
 (.and (.call 6 [.ex (.var 13)] (.br (.cmp .eql (.var 18) (.var 11))
 (.and (.and (.ext (.mk 26 (va [2, 3, 4, 5, 6, 7, 13, 9, 10, 11] [])) (.ret [.var 20, .var 12, .bx (.lit false)])) .ok) .ok)
 (.and (.and (.ext (.mk 27 (va [2, 3, 4, 5, 6, 7, 13] (.ex (.lit 11) :: va [9, 10, 11] []))) (.ret [.var 20, .var 12, .bx (.lit true)])) .ok) .ok))) .ok)
 (.and (.and (.ext (.mk 26 (va [2, 3, 4, 5, 6, 7, 13, 9, 10, 11] [])) (.ret [.var 17, .var 12, .bx (.lit false)])) .ok) .ok))
 (.and (.and (.ext (.mk 27 (va [2, 3, 4, 5, 6, 7, 13] (.ex (.lit 11) :: va [9, 10, 11] []))) (.ret [.var 17, .var 12, .bx (.lit true)])) .ok) .ok))) .ok)) .ok) .ok) .ok)) .ok) .ok))
 (.and (.opn 0 26 (.and (.and (.br (.cmp .eql (.var 10) (.lit 4))
 (.and (.call 6 [.ex (.var 8)] (.and (.call 7 [.ex (.var 10), .ex (.var 11), .ex (.bin .and .i64 (.bin .add .i64 (.var 14) (.lit 0)) (.lit 4294967295))] (.and (.call 2 [.var 1, .ex (.bin .add .i64 (.var 2) (.var 7)), .ex (.var 8), .ex (.var 15)] (.br (.var 17)
 (.and (.and (.ext (.mk 27 (va [2, 3, 4, 5, 6, 7, 8] (.ex (.lit 0) :: va [9, 10, 11] []))) (.ret [.var 18, .var 16, .bx (.lit true)])) .ok) .ok)
 (.and (.and (.ext (.mk 25 (va [2, 3, 4, 5, 6, 7, 8, 9, 10, 11] [])) (.ret [.var 18, .var 16, .bx (.lit false)])) .ok) .ok))) .ok)) .ok)) .ok)
 (.and (.call 6 [.ex (.var 8)] (.and (.call 7 [.ex (.var 10), .ex (.lit 0), .ex (.bin .and .i64 (.bin .add .i64 (.var 14) (.lit 0)) (.lit 4294967295))] (.and (.call 2 [.var 1, .ex (.bin .add .i64 (.var 2) (.var 7)), .ex (.var 8), .ex (.var 15)] (.br (.var 17)
 (.and (.and (.ext (.mk 27 (va [2, 3, 4, 5, 6, 7, 8] (.ex (.lit 0) :: va [9, 10, 11] []))) (.ret [.var 18, .var 16, .bx (.lit true)])) .ok) .ok)
 (.and (.and (.ext (.mk 25 (va [2, 3, 4, 5, 6, 7, 8, 9, 10, 11] [])) (.ret [.var 18, .var 16, .bx (.lit false)])) .ok) .ok))) .ok)) .ok)) .ok)) .ok) .ok))
 (.and (.opn 0 27 (.ext (.mk 27 (va [2, 3, 4, 5, 6, 7, 8, 9, 10, 11, 12] [])) (.ret [.var 13, .var 1, .bx (.lit true)])))
 (.nomore 0 [24, 25, 26, 27])))))
theorem rTuStep : runCtr { (cxDp Tryz.prog) with hints := hsTuStep } 20 cTuStep [(0, [24,25,26,27])] [(0, [24,25,26,27])] = tTuStep := by
  dsimp only [tTuStep, va, List.map_cons, List.map_nil, List.cons_append, List.nil_append]
  kernel_rfl
end Go.Proofs.YtdabdbbgaekmdaaGreat
namespace Go.Proofs.YtdabdbbgaekmdaaGreat
set_option linter.unusedVariables false
set_option linter.unusedSimpArgs false
set_option linter.unusedSectionVars false
open Go Go.RowKit
theorem ti_n {O : OpSt} (h : ¬ O.line = 9) : [EV.u (U.rop O), .i 0, .i 14] = cQOIdx.out [.u (U.rop O)] := by
  show _ = [EV.u (U.rop O), .i O.index, .i O.told]
  rw [OpSt.index, OpSt.told, if_neg (fun g => h g.1), if_neg h]
theorem ti_e {O : OpSt} (h : O.line = 9) (he : ¬ O.err = 0) : [EV.u (U.rop O), .i 0, .i O.err] = cQOIdx.out [.u (U.rop O)] := by
  show _ = [EV.u (U.rop O), .i O.index, .i O.told]
  rw [OpSt.index, OpSt.told, if_neg (fun g => he g.2), if_pos h]
theorem te_n {O : OpSt} (h : ¬ O.line = 9) : [EV.u (U.rop O), .i 14] = cQOErr.out [.u (U.rop O)] := by
  show _ = [EV.u (U.rop O), .i O.told]
  rw [OpSt.told, if_neg h]
theorem tk_n {ld : Bool} {K : KeySt} (h : ¬ K.line = 9) : [EV.u (U.rkey ld K), .i 14] = cQKErr.out [.u (U.rkey ld K)] := by
  show _ = [EV.u (U.rkey ld K), .i K.told]
  rw [KeySt.told, if_neg h]
theorem tkw_n {K : KeySt} (h : ¬ K.line = 9) : [EV.u (U.rkey true K), .i 0, .i 14] = cQKWd.out [.u (U.rkey true K)] := by
  show _ = [EV.u (U.rkey true K), .i K.word, .i K.told]
  rw [KeySt.word, KeySt.told, if_neg (fun g => h g.1), if_neg h]
theorem tti_e {O : OpSt} (h : O.line = 9) (he : ¬ O.err = 0) : [EV.u (U.take O), .i 0, .i O.err] = cTkIdx.out [.u (U.take O)] := by
  show _ = [EV.u (U.take O), .i O.index, .i O.told]
  rw [OpSt.index, OpSt.told, if_neg (fun g => he g.2), if_pos h]
theorem tki_e {K : KeySt} (h : K.line = 9) (he : ¬ K.err = 0) : [EV.u (U.keyOf K), .i 0, .i K.err] = cKoWd.out [.u (U.keyOf K)] := by
  show _ = [EV.u (U.keyOf K), .i K.word, .i K.told]
  rw [KeySt.word, KeySt.told, if_neg (fun g => he g.2), if_pos h]
theorem tri_e {K : KeySt} (h : K.line = 9) (he : ¬ K.err = 0) : [EV.u (U.rkey true K), .i 0, .i K.err] = cQKWd.out [.u (U.rkey true K)] := by
  show _ = [EV.u (U.rkey true K), .i K.word, .i K.told]
  rw [KeySt.word, KeySt.told, if_neg (fun g => he g.2), if_pos h]
set_option maxRecDepth 10000
set_option maxHeartbeats 8000000 in
theorem vTkIdx (P : Program) (hs : List (Nat × Nat × List Nat)) : ∀ ins, ins.length = cTkIdx.nin → cTkIdx.pre ins → tTkIdx.sat { cxDi P with hints := hs } (ctrR cTkIdx) ins := by
  rintro ins _ ⟨F, rfl⟩
  unfold tTkIdx
  refine st_and (st_opn (T := takA) (by rfl) ?_) (st_and (st_opn (T := takP1) (by rfl) ?_) (st_and (st_opn (T := takP2) (by rfl) ?_) (st_and (st_opn (T := takP3) (by rfl) ?_) (st_and (st_opn (T := takL) (by rfl) ?_) (st_and (st_opn (T := takS) (by rfl) ?_) (st_and (st_opn (T := takE1) (by rfl) ?_) (st_and (st_opn (T := takE2) (by rfl) ?_) (nomore_take))))))))
  (rintro ps hl ⟨st, ks, t, ls, s, rfl, hok⟩ he
   simp only [List.getElem?_cons_zero, takA, takAObj, Option.some.injEq, EV.u.injEq, U.take.injEq] at he
   subst he
   simp only [List.cons_append, List.nil_append]
   skip)
  rotate_left
  (rintro ps hl ⟨st, ks, t, ls, s, pw, pi, pj, rfl, hok⟩ he
   simp only [List.getElem?_cons_zero, takP1, takP1Obj, Option.some.injEq, EV.u.injEq, U.take.injEq] at he
   subst he
   simp only [List.cons_append, List.nil_append]
   skip)
  rotate_left
  (rintro ps hl ⟨st, ks, t, ls, s, pw, pi, pj, rfl, hok⟩ he
   simp only [List.getElem?_cons_zero, takP2, takP2Obj, Option.some.injEq, EV.u.injEq, U.take.injEq] at he
   subst he
   simp only [List.cons_append, List.nil_append]
   skip)
  rotate_left
  (rintro ps hl ⟨st, ks, t, ls, s, pw, pi, pj, rfl, hok⟩ he
   simp only [List.getElem?_cons_zero, takP3, takP3Obj, Option.some.injEq, EV.u.injEq, U.take.injEq] at he
   subst he
   simp only [List.cons_append, List.nil_append]
   skip)
  rotate_left
  (rintro ps hl ⟨st, ks, t, ls, s, i, w, pw, pi, pj, rfl, hok⟩ he
   simp only [List.getElem?_cons_zero, takL, takLObj, Option.some.injEq, EV.u.injEq, U.take.injEq] at he
   subst he
   simp only [List.cons_append, List.nil_append]
   skip)
  rotate_left
  (rintro ps hl ⟨st, ks, t, ls, s, i, w, pw, pi, pj, rfl, hok⟩ he
   simp only [List.getElem?_cons_zero, takS, takSObj, Option.some.injEq, EV.u.injEq, U.take.injEq] at he
   subst he
   simp only [List.cons_append, List.nil_append]
   skip)
  rotate_left
  (rintro ps hl ⟨st, ks, t, ls, s, i, w, e, pw, pi, pj, rfl, hok⟩ he
   simp only [List.getElem?_cons_zero, takE1, takE1Obj, Option.some.injEq, EV.u.injEq, U.take.injEq] at he
   subst he
   simp only [List.cons_append, List.nil_append]
   skip)
  rotate_left
  (rintro ps hl ⟨st, ks, t, ls, s, i, w, pw, pi, pj, rfl, hok⟩ he
   simp only [List.getElem?_cons_zero, takE2, takE2Obj, Option.some.injEq, EV.u.injEq, U.take.injEq] at he
   subst he
   simp only [List.cons_append, List.nil_append]
   skip)
  rotate_left
  all_goals
    repeat' (first
      | (first
        | (with_reducible refine st_need ?_ ?_
           focus (simp only [dn, reduceCtorEq, va_map] <;> first | omega | assumption))
        | (with_reducible refine st_and ?_ ?_)
        | (with_reducible exact st_ok)
        | (with_reducible refine st_br (fun hc => ?_) (fun hc => ?_) <;> (simp only [dn, reduceCtorEq, va_map] at hc) <;> (try (exfalso; first | contradiction | omega)))
        | (refine st_call (by rfl) (by simp only [dn, reduceCtorEq, va_map] <;> rfl) ?_ (by rfl <;> rfl) (by simp only [dn] <;> rfl) ?_
           focus (first | rfl)))
      | (refine st_mk (by rfl) (by simp only [dn, reduceCtorEq, va_map] <;> rfl) ?_ (by simp only [dn] <;> rfl) ?_
         focus first | exact ⟨_, _, _, _, _, rfl, hok⟩ | exact ⟨_, _, _, _, _, _, _, _, rfl, hok⟩ | exact ⟨_, _, _, _, _, _, _, _, _, _, rfl, hok⟩ | exact ⟨_, _, _, _, _, _, _, _, _, _, _, rfl, hok⟩)
      | (refine st_ret (by simp only [dn, reduceCtorEq, va_map] <;> rfl) ?_
         first
           | rfl
           | exact ti_n h9
           | exact te_n h9
           | exact tk_n h9
           | exact tkw_n h9
           | exact ti_e rfl he
           | exact tti_e rfl hok
           | exact tki_e rfl (by assumption)
           | exact tri_e rfl he
           | (subst hc; rfl))
      | fail "no step")
theorem hTkIdx : cTkIdx.Holds objs Tryz.prog := runCtr_holds (X := { cxDi Tryz.prog with hints := hsTkIdx }) objsOk mixed noCts (callable _ Tryz.func73 (by kernel_rfl) (by kernel_rfl)) (by rintro ins _ ⟨_, rfl⟩; rfl) (by rw [rTkIdx]; exact vTkIdx _ _)
set_option maxHeartbeats 8000000 in
theorem vGvErr (P : Program) (hs : List (Nat × Nat × List Nat)) : ∀ ins, ins.length = cGvErr.nin → cGvErr.pre ins → tGvErr.sat { cxDi P with hints := hs } (ctrR cGvErr) ins := by
  rintro ins _ ⟨F, rfl⟩
  unfold tGvErr
  refine st_and (st_opn (T := givA) (by rfl) ?_) (st_and (st_opn (T := givL) (by rfl) ?_) (st_and (st_opn (T := givS) (by rfl) ?_) (st_and (st_opn (T := givP1) (by rfl) ?_) (st_and (st_opn (T := givP2) (by rfl) ?_) (st_and (st_opn (T := givP3) (by rfl) ?_) (st_and (st_opn (T := givE1) (by rfl) ?_) (st_and (st_opn (T := givE2) (by rfl) ?_) (st_and (st_opn (T := givR) (by rfl) ?_) (nomore_give)))))))))
  (rintro ps hl ⟨st, ks, t, ls, s, i, rfl, hok⟩ he
   simp only [List.getElem?_cons_zero, givA, givAObj, Option.some.injEq, EV.u.injEq, U.give.injEq] at he
   subst he
   simp only [List.cons_append, List.nil_append]
   skip)
  rotate_left
  (rintro ps hl ⟨st, ks, t, ls, s, i, w, rfl, hok⟩ he
   simp only [List.getElem?_cons_zero, givL, givLObj, Option.some.injEq, EV.u.injEq, U.give.injEq] at he
   subst he
   simp only [List.cons_append, List.nil_append]
   skip)
  rotate_left
  (rintro ps hl ⟨st, ks, t, ls, s, i, w, rfl, hok⟩ he
   simp only [List.getElem?_cons_zero, givS, givSObj, Option.some.injEq, EV.u.injEq, U.give.injEq] at he
   subst he
   simp only [List.cons_append, List.nil_append]
   skip)
  rotate_left
  (rintro ps hl ⟨st, ks, t, ls, s, i, w, pw, pj, rfl, hok⟩ he
   simp only [List.getElem?_cons_zero, givP1, givP1Obj, Option.some.injEq, EV.u.injEq, U.give.injEq] at he
   subst he
   simp only [List.cons_append, List.nil_append]
   skip)
  rotate_left
  (rintro ps hl ⟨st, ks, t, ls, s, i, w, pw, pj, rfl, hok⟩ he
   simp only [List.getElem?_cons_zero, givP2, givP2Obj, Option.some.injEq, EV.u.injEq, U.give.injEq] at he
   subst he
   simp only [List.cons_append, List.nil_append]
   skip)
  rotate_left
  (rintro ps hl ⟨st, ks, t, ls, s, i, w, pw, pj, rfl, hok⟩ he
   simp only [List.getElem?_cons_zero, givP3, givP3Obj, Option.some.injEq, EV.u.injEq, U.give.injEq] at he
   subst he
   simp only [List.cons_append, List.nil_append]
   skip)
  rotate_left
  (rintro ps hl ⟨st, ks, t, ls, s, i, w, e, rfl, hok⟩ he
   simp only [List.getElem?_cons_zero, givE1, givE1Obj, Option.some.injEq, EV.u.injEq, U.give.injEq] at he
   subst he
   simp only [List.cons_append, List.nil_append]
   skip)
  rotate_left
  (rintro ps hl ⟨st, ks, t, ls, s, i, w, pw, pj, rfl, hok⟩ he
   simp only [List.getElem?_cons_zero, givE2, givE2Obj, Option.some.injEq, EV.u.injEq, U.give.injEq] at he
   subst he
   simp only [List.cons_append, List.nil_append]
   skip)
  rotate_left
  (rintro ps hl ⟨st, ks, t, ls, s, i, e, rfl, hok⟩ he
   simp only [List.getElem?_cons_zero, givR, givRObj, Option.some.injEq, EV.u.injEq, U.give.injEq] at he
   subst he
   simp only [List.cons_append, List.nil_append]
   skip)
  rotate_left
  all_goals
    repeat' (first
      | (first
        | (with_reducible refine st_need ?_ ?_
           focus (simp only [dn, reduceCtorEq, va_map] <;> first | omega | assumption))
        | (with_reducible refine st_and ?_ ?_)
        | (with_reducible exact st_ok)
        | (with_reducible refine st_br (fun hc => ?_) (fun hc => ?_) <;> (simp only [dn, reduceCtorEq, va_map] at hc) <;> (try (exfalso; first | contradiction | omega)))
        | (refine st_call (by rfl) (by simp only [dn, reduceCtorEq, va_map] <;> rfl) ?_ (by rfl <;> rfl) (by simp only [dn] <;> rfl) ?_
           focus (first | rfl)))
      | (refine st_mk (by rfl) (by simp only [dn, reduceCtorEq, va_map] <;> rfl) ?_ (by simp only [dn] <;> rfl) ?_
         focus first | exact ⟨_, _, _, _, _, _, rfl, hok⟩ | exact ⟨_, _, _, _, _, _, _, rfl, hok⟩ | exact ⟨_, _, _, _, _, _, _, _, rfl, hok⟩ | exact ⟨_, _, _, _, _, _, _, _, _, rfl, hok⟩)
      | (refine st_ret (by simp only [dn, reduceCtorEq, va_map] <;> rfl) ?_
         first
           | rfl
           | exact ti_n h9
           | exact te_n h9
           | exact tk_n h9
           | exact tkw_n h9
           | exact ti_e rfl he
           | exact tti_e rfl hok
           | exact tki_e rfl (by assumption)
           | exact tri_e rfl he
           | (subst hc; rfl))
      | fail "no step")
theorem hGvErr : cGvErr.Holds objs Tryz.prog := runCtr_holds (X := { cxDi Tryz.prog with hints := hsGvErr }) objsOk mixed noCts (callable _ Tryz.func36 (by kernel_rfl) (by kernel_rfl)) (by rintro ins _ ⟨_, rfl⟩; rfl) (by rw [rGvErr]; exact vGvErr _ _)
set_option maxHeartbeats 8000000 in
theorem vTuErr (P : Program) (hs : List (Nat × Nat × List Nat)) : ∀ ins, ins.length = cTuErr.nin → cTuErr.pre ins → tTuErr.sat { cxDi P with hints := hs } (ctrR cTuErr) ins := by
  rintro ins _ ⟨F, rfl⟩
  unfold tTuErr
  refine st_and (st_opn (T := turA) (by rfl) ?_) (st_and (st_opn (T := turL) (by rfl) ?_) (st_and (st_opn (T := turS) (by rfl) ?_) (st_and (st_opn (T := turE) (by rfl) ?_) (nomore_turn))))
  (rintro ps hl ⟨st, ks, t, ls, s, i, fr, to, co, rfl, hok⟩ he
   simp only [List.getElem?_cons_zero, turA, turAObj, Option.some.injEq, EV.u.injEq, U.turn.injEq] at he
   subst he
   simp only [List.cons_append, List.nil_append]
   skip)
  rotate_left
  (rintro ps hl ⟨st, ks, t, ls, s, i, w, fr, to, co, rfl, hok⟩ he
   simp only [List.getElem?_cons_zero, turL, turLObj, Option.some.injEq, EV.u.injEq, U.turn.injEq] at he
   subst he
   simp only [List.cons_append, List.nil_append]
   skip)
  rotate_left
  (rintro ps hl ⟨st, ks, t, ls, s, i, w, fr, to, co, rfl, hok⟩ he
   simp only [List.getElem?_cons_zero, turS, turSObj, Option.some.injEq, EV.u.injEq, U.turn.injEq] at he
   subst he
   simp only [List.cons_append, List.nil_append]
   skip)
  rotate_left
  (rintro ps hl ⟨st, ks, t, ls, s, i, w, e, fr, to, co, rfl, hok⟩ he
   simp only [List.getElem?_cons_zero, turE, turEObj, Option.some.injEq, EV.u.injEq, U.turn.injEq] at he
   subst he
   simp only [List.cons_append, List.nil_append]
   skip)
  rotate_left
  all_goals
    repeat' (first
      | (first
        | (with_reducible refine st_need ?_ ?_
           focus (simp only [dn, reduceCtorEq, va_map] <;> first | omega | assumption))
        | (with_reducible refine st_and ?_ ?_)
        | (with_reducible exact st_ok)
        | (with_reducible refine st_br (fun hc => ?_) (fun hc => ?_) <;> (simp only [dn, reduceCtorEq, va_map] at hc) <;> (try (exfalso; first | contradiction | omega)))
        | (refine st_call (by rfl) (by simp only [dn, reduceCtorEq, va_map] <;> rfl) ?_ (by rfl <;> rfl) (by simp only [dn] <;> rfl) ?_
           focus (first | rfl)))
      | (refine st_mk (by rfl) (by simp only [dn, reduceCtorEq, va_map] <;> rfl) ?_ (by simp only [dn] <;> rfl) ?_
         focus first | exact ⟨_, _, _, _, _, _, _, _, _, rfl, hok⟩ | exact ⟨_, _, _, _, _, _, _, _, _, _, rfl, hok⟩ | exact ⟨_, _, _, _, _, _, _, _, _, _, _, rfl, hok⟩)
      | (refine st_ret (by simp only [dn, reduceCtorEq, va_map] <;> rfl) ?_
         first
           | rfl
           | exact ti_n h9
           | exact te_n h9
           | exact tk_n h9
           | exact tkw_n h9
           | exact ti_e rfl he
           | exact tti_e rfl hok
           | exact tki_e rfl (by assumption)
           | exact tri_e rfl he
           | (subst hc; rfl))
      | fail "no step")
theorem hTuErr : cTuErr.Holds objs Tryz.prog := runCtr_holds (X := { cxDi Tryz.prog with hints := hsTuErr }) objsOk mixed noCts (callable _ Tryz.func46 (by kernel_rfl) (by kernel_rfl)) (by rintro ins _ ⟨_, rfl⟩; rfl) (by rw [rTuErr]; exact vTuErr _ _)
end Go.Proofs.YtdabdbbgaekmdaaGreat
namespace Go.Proofs.YtdabdbbgaekmdaaGreat
set_option linter.unusedVariables false
set_option linter.unusedSimpArgs false
set_option linter.unusedSectionVars false
open Go Go.RowKit
theorem hctsDp : ∀ (ci : Nat) (c : Ctr U), ctsDp[ci]? = some c → c.Holds objs Tryz.prog := by
  intro ci c h
  match ci, h with
  | 0, h => cases h; exact hLoad
  | 1, h => cases h; exact hStore
  | 2, h => cases h; exact hCAS
  | 3, h => cases h; exact hGetTop
  | 4, h => cases h; exact hPuT
  | 5, h => cases h; exact hRead
  | 6, h => cases h; exact hJRd
  | 7, h => cases h; exact hLay
  | n + 8, h => cases h
theorem out_jrd (w : Int) : cJRd.out [.i w] = [.i (w % 256), .i (w / 256 % 256), .i (w / 4294967296)] := rfl
theorem out_lay (s c g : Int) : cLay.out [.i s, .i c, .i g] = [.i (layW s c g)] := rfl
theorem gen_next {w : Int} (h : isW w) : bits .and .i64 (IntKind.i64.wrap (w / 4294967296 + 1)) 4294967295 = (w / 4294967296 + 1) % 4294967296 := by
  obtain ⟨h0, h1⟩ := h
  rw [wrap_small (n := w / 4294967296 + 1) (by omega) (by omega)]
  exact and_mod_i 32 _ (by decide) (by omega) (by omega)
theorem gen_same {w : Int} (h : isW w) : bits .and .i64 (IntKind.i64.wrap (w / 4294967296)) 4294967295 = w / 4294967296 := by
  obtain ⟨h0, h1⟩ := h
  rw [wrap_small (n := w / 4294967296) (by omega) (by omega)]
  have e : bits .and .i64 (w / 4294967296) 4294967295 = w / 4294967296 % 4294967296 := and_mod_i 32 _ (by decide) (by omega) (by omega)
  rw [e]; omega
section
variable {st ks t ls s i w pw pj fr to co : Int} {M : MemSt}
theorem tk0y (h : idxW s (M.load t).n < 0) : OpSt.step ⟨1, [st, ks, t, ls, s], 0, 0, 0, 1, 0, 0, 0, 0, 0, 0⟩ M = (OpSt.ended 0 7, M.load t) := by
  show (if idxW s (M.load t).n < 0 then _ else _, _) = _
  rw [if_pos h]
  try rfl
theorem tk0n (h : ¬ idxW s (M.load t).n < 0) : OpSt.step ⟨1, [st, ks, t, ls, s], 0, 0, 0, 1, 0, 0, 0, 0, 0, 0⟩ M = (⟨1, [st, ks, t, ls, s], 0, 0, 0, 2, (M.load t).n, 0, 0, 0, 0, 0⟩, M.load t) := by
  show (if idxW s (M.load t).n < 0 then _ else _, _) = _
  rw [if_neg h]
  try rfl
theorem tk3y (h : (M.cas t pw (topW pj pw)).h = true) : OpSt.step ⟨1, [st, ks, t, ls, s], 0, 0, 0, 3, pw, pj, 0, 0, 0, 0⟩ M = (⟨1, [st, ks, t, ls, s], 1, idxW s pw, 0, 0, 0, 0, 0, 0, 0, 0⟩, M.cas t pw (topW pj pw)) := by
  show (if (M.cas t pw (topW pj pw)).h = true then _ else _, _) = _
  rw [if_pos h]
  try rfl
theorem tk3n (h : (M.cas t pw (topW pj pw)).h = false) : OpSt.step ⟨1, [st, ks, t, ls, s], 0, 0, 0, 3, pw, pj, 0, 0, 0, 0⟩ M = (⟨1, [st, ks, t, ls, s], 0, 0, 0, 1, 0, 0, 0, 0, 0, 0⟩, M.cas t pw (topW pj pw)) := by
  show (if (M.cas t pw (topW pj pw)).h = true then _ else _, _) = _
  rw [if_neg (by rw [h]; decide)]
  try rfl
theorem tk1  : OpSt.step ⟨1, [st, ks, t, ls, s], 1, i, 0, 0, 0, 0, 0, 0, 0, 0⟩ M = (⟨1, [st, ks, t, ls, s], 2, i, (M.load (IntKind.i64.wrap (st + i))).n, 0, 0, 0, 0, 0, 0, 0⟩, M.load (IntKind.i64.wrap (st + i))) := by
  show (if OpSt.goes ⟨1, [st, ks, t, ls, s], 1, i, 0, 0, 0, 0, 0, 0, 0, 0⟩ (M.load (IntKind.i64.wrap (st + i))).n then _ else _, _) = _
  rw [if_pos (.inl rfl)]
  try rfl
theorem tk2y (h : (M.cas (IntKind.i64.wrap (st + i)) w (layW 2 0 ((w / 4294967296 + 1) % 4294967296))).h = true) : OpSt.step ⟨1, [st, ks, t, ls, s], 2, i, w, 0, 0, 0, 0, 0, 0, 0⟩ M = (OpSt.ended i 0, M.cas (IntKind.i64.wrap (st + i)) w (layW 2 0 ((w / 4294967296 + 1) % 4294967296))) := by
  show (if (M.cas (IntKind.i64.wrap (st + i)) w (layW 2 0 ((w / 4294967296 + 1) % 4294967296))).h = true then _ else _, _) = _
  rw [if_pos h]
  try rfl
theorem tk2n (h : (M.cas (IntKind.i64.wrap (st + i)) w (layW 2 0 ((w / 4294967296 + 1) % 4294967296))).h = false) : OpSt.step ⟨1, [st, ks, t, ls, s], 2, i, w, 0, 0, 0, 0, 0, 0, 0⟩ M = (⟨1, [st, ks, t, ls, s], 1, i, 0, 0, 0, 0, 0, 0, 0, 0⟩, M.cas (IntKind.i64.wrap (st + i)) w (layW 2 0 ((w / 4294967296 + 1) % 4294967296))) := by
  show (if (M.cas (IntKind.i64.wrap (st + i)) w (layW 2 0 ((w / 4294967296 + 1) % 4294967296))).h = true then _ else _, _) = _
  rw [if_neg (by rw [h]; decide)]
  try rfl
theorem gv2y (h : (M.cas (IntKind.i64.wrap (st + i)) w (layW 1 0 (w / 4294967296))).h = true) : OpSt.step ⟨2, [st, ks, t, ls, s], 2, i, w, 0, 0, 0, 0, 0, 0, 0⟩ M = (⟨2, [st, ks, t, ls, s], 3, i, 0, 1, 0, 0, 0, 0, 0, 0⟩, M.cas (IntKind.i64.wrap (st + i)) w (layW 1 0 (w / 4294967296))) := by
  show (if (M.cas (IntKind.i64.wrap (st + i)) w (layW 1 0 (w / 4294967296))).h = true then _ else _, _) = _
  rw [if_pos h]
  try rfl
theorem gv2n (h : (M.cas (IntKind.i64.wrap (st + i)) w (layW 1 0 (w / 4294967296))).h = false) : OpSt.step ⟨2, [st, ks, t, ls, s], 2, i, w, 0, 0, 0, 0, 0, 0, 0⟩ M = (⟨2, [st, ks, t, ls, s], 1, i, 0, 0, 0, 0, 0, 0, 0, 0⟩, M.cas (IntKind.i64.wrap (st + i)) w (layW 1 0 (w / 4294967296))) := by
  show (if (M.cas (IntKind.i64.wrap (st + i)) w (layW 1 0 (w / 4294967296))).h = true then _ else _, _) = _
  rw [if_neg (by rw [h]; decide)]
  try rfl
theorem gv1y (h : (M.load (IntKind.i64.wrap (st + i))).n % 256 = 5 ∨ (M.load (IntKind.i64.wrap (st + i))).n % 256 = 2) : OpSt.step ⟨2, [st, ks, t, ls, s], 1, i, 0, 0, 0, 0, 0, 0, 0, 0⟩ M = (⟨2, [st, ks, t, ls, s], 2, i, (M.load (IntKind.i64.wrap (st + i))).n, 0, 0, 0, 0, 0, 0, 0⟩, M.load (IntKind.i64.wrap (st + i))) := by
  show (if OpSt.goes ⟨2, [st, ks, t, ls, s], 1, i, 0, 0, 0, 0, 0, 0, 0, 0⟩ (M.load (IntKind.i64.wrap (st + i))).n then _ else _, _) = _
  rw [if_pos (.inr (.inl ⟨rfl, h⟩))]
  try rfl
theorem gv1n (h : ¬ (M.load (IntKind.i64.wrap (st + i))).n % 256 = 5) (h1 : ¬ (M.load (IntKind.i64.wrap (st + i))).n % 256 = 2) : OpSt.step ⟨2, [st, ks, t, ls, s], 1, i, 0, 0, 0, 0, 0, 0, 0, 0⟩ M = (OpSt.ended 0 11, M.load (IntKind.i64.wrap (st + i))) := by
  show (if OpSt.goes ⟨2, [st, ks, t, ls, s], 1, i, 0, 0, 0, 0, 0, 0, 0, 0⟩ (M.load (IntKind.i64.wrap (st + i))).n then _ else _, _) = _
  rw [if_neg (by rintro (e | ⟨_, e | e⟩ | ⟨e, _⟩); exact absurd e (by show ¬ (2 : Int) = 1; decide); exact h e; exact h1 e; exact absurd e (by show ¬ (2 : Int) = 3; decide))]
  try rfl
theorem gv3y (h : (M.cas t pw (topW i pw)).h = true) : OpSt.step ⟨2, [st, ks, t, ls, s], 3, i, 0, 3, pw, 0, 0, 0, 0, 0⟩ M = (OpSt.ended i 0, M.cas t pw (topW i pw)) := by
  show (if (M.cas t pw (topW i pw)).h = true then _ else _, _) = _
  rw [if_pos h]
  try rfl
theorem gv3n (h : (M.cas t pw (topW i pw)).h = false) : OpSt.step ⟨2, [st, ks, t, ls, s], 3, i, 0, 3, pw, 0, 0, 0, 0, 0⟩ M = (⟨2, [st, ks, t, ls, s], 3, i, 0, 1, 0, 0, 0, 0, 0, 0⟩, M.cas t pw (topW i pw)) := by
  show (if (M.cas t pw (topW i pw)).h = true then _ else _, _) = _
  rw [if_neg (by rw [h]; decide)]
  try rfl
theorem tu1y (h : (M.load (IntKind.i64.wrap (st + i))).n % 256 = fr) (h1 : (M.load (IntKind.i64.wrap (st + i))).n % 256 = 4 → (M.load (IntKind.i64.wrap (st + i))).n / 256 % 256 = co) : OpSt.step ⟨3, [st, ks, t, ls, s], 1, i, 0, 0, 0, 0, fr, to, co, 0⟩ M = (⟨3, [st, ks, t, ls, s], 2, i, (M.load (IntKind.i64.wrap (st + i))).n, 0, 0, 0, fr, to, co, 0⟩, M.load (IntKind.i64.wrap (st + i))) := by
  show (if OpSt.goes ⟨3, [st, ks, t, ls, s], 1, i, 0, 0, 0, 0, fr, to, co, 0⟩ (M.load (IntKind.i64.wrap (st + i))).n then _ else _, _) = _
  rw [if_pos (.inr (.inr ⟨rfl, h, h1⟩))]
  try rfl
theorem tu1n (h : ¬ (M.load (IntKind.i64.wrap (st + i))).n % 256 = fr) : OpSt.step ⟨3, [st, ks, t, ls, s], 1, i, 0, 0, 0, 0, fr, to, co, 0⟩ M = (OpSt.ended 0 11, M.load (IntKind.i64.wrap (st + i))) := by
  show (if OpSt.goes ⟨3, [st, ks, t, ls, s], 1, i, 0, 0, 0, 0, fr, to, co, 0⟩ (M.load (IntKind.i64.wrap (st + i))).n then _ else _, _) = _
  rw [if_neg (by rintro (e | ⟨e, _⟩ | ⟨_, e, _⟩); exact absurd e (by show ¬ (3 : Int) = 1; decide); exact absurd e (by show ¬ (3 : Int) = 2; decide); exact h e)]
  try rfl
theorem tu1m (h : (M.load (IntKind.i64.wrap (st + i))).n % 256 = 4) (h1 : ¬ (M.load (IntKind.i64.wrap (st + i))).n / 256 % 256 = co) : OpSt.step ⟨3, [st, ks, t, ls, s], 1, i, 0, 0, 0, 0, fr, to, co, 0⟩ M = (OpSt.ended 0 11, M.load (IntKind.i64.wrap (st + i))) := by
  show (if OpSt.goes ⟨3, [st, ks, t, ls, s], 1, i, 0, 0, 0, 0, fr, to, co, 0⟩ (M.load (IntKind.i64.wrap (st + i))).n then _ else _, _) = _
  rw [if_neg (by rintro (e | ⟨e, _⟩ | ⟨_, _, e⟩); exact absurd e (by show ¬ (3 : Int) = 1; decide); exact absurd e (by show ¬ (3 : Int) = 2; decide); exact h1 (e h))]
  try rfl
theorem tu24y (ht : to = 4) (h : (M.cas (IntKind.i64.wrap (st + i)) w (layW to co (w / 4294967296))).h = true) : OpSt.step ⟨3, [st, ks, t, ls, s], 2, i, w, 0, 0, 0, fr, to, co, 0⟩ M = (OpSt.ended i 0, M.cas (IntKind.i64.wrap (st + i)) w (layW to co (w / 4294967296))) := by
  have e : OpSt.next ⟨3, [st, ks, t, ls, s], 2, i, w, 0, 0, 0, fr, to, co, 0⟩ = layW to co (w / 4294967296) := by
    show layW to (if to = 4 then co else 0) _ = _
    rw [if_pos ht]
  show (if (M.cas (IntKind.i64.wrap (st + i)) w (OpSt.next ⟨3, [st, ks, t, ls, s], 2, i, w, 0, 0, 0, fr, to, co, 0⟩)).h = true then _ else _, M.cas (IntKind.i64.wrap (st + i)) w (OpSt.next ⟨3, [st, ks, t, ls, s], 2, i, w, 0, 0, 0, fr, to, co, 0⟩)) = _
  rw [e, if_pos h]
  try rfl
theorem tu24n (ht : to = 4) (h : (M.cas (IntKind.i64.wrap (st + i)) w (layW to co (w / 4294967296))).h = false) : OpSt.step ⟨3, [st, ks, t, ls, s], 2, i, w, 0, 0, 0, fr, to, co, 0⟩ M = (⟨3, [st, ks, t, ls, s], 1, i, 0, 0, 0, 0, fr, to, co, 0⟩, M.cas (IntKind.i64.wrap (st + i)) w (layW to co (w / 4294967296))) := by
  have e : OpSt.next ⟨3, [st, ks, t, ls, s], 2, i, w, 0, 0, 0, fr, to, co, 0⟩ = layW to co (w / 4294967296) := by
    show layW to (if to = 4 then co else 0) _ = _
    rw [if_pos ht]
  show (if (M.cas (IntKind.i64.wrap (st + i)) w (OpSt.next ⟨3, [st, ks, t, ls, s], 2, i, w, 0, 0, 0, fr, to, co, 0⟩)).h = true then _ else _, M.cas (IntKind.i64.wrap (st + i)) w (OpSt.next ⟨3, [st, ks, t, ls, s], 2, i, w, 0, 0, 0, fr, to, co, 0⟩)) = _
  rw [e, if_neg (by rw [h]; decide)]
  try rfl
theorem tu20y (ht : ¬ to = 4) (h : (M.cas (IntKind.i64.wrap (st + i)) w (layW to 0 (w / 4294967296))).h = true) : OpSt.step ⟨3, [st, ks, t, ls, s], 2, i, w, 0, 0, 0, fr, to, co, 0⟩ M = (OpSt.ended i 0, M.cas (IntKind.i64.wrap (st + i)) w (layW to 0 (w / 4294967296))) := by
  have e : OpSt.next ⟨3, [st, ks, t, ls, s], 2, i, w, 0, 0, 0, fr, to, co, 0⟩ = layW to 0 (w / 4294967296) := by
    show layW to (if to = 4 then co else 0) _ = _
    rw [if_neg ht]
  show (if (M.cas (IntKind.i64.wrap (st + i)) w (OpSt.next ⟨3, [st, ks, t, ls, s], 2, i, w, 0, 0, 0, fr, to, co, 0⟩)).h = true then _ else _, M.cas (IntKind.i64.wrap (st + i)) w (OpSt.next ⟨3, [st, ks, t, ls, s], 2, i, w, 0, 0, 0, fr, to, co, 0⟩)) = _
  rw [e, if_pos h]
  try rfl
theorem tu20n (ht : ¬ to = 4) (h : (M.cas (IntKind.i64.wrap (st + i)) w (layW to 0 (w / 4294967296))).h = false) : OpSt.step ⟨3, [st, ks, t, ls, s], 2, i, w, 0, 0, 0, fr, to, co, 0⟩ M = (⟨3, [st, ks, t, ls, s], 1, i, 0, 0, 0, 0, fr, to, co, 0⟩, M.cas (IntKind.i64.wrap (st + i)) w (layW to 0 (w / 4294967296))) := by
  have e : OpSt.next ⟨3, [st, ks, t, ls, s], 2, i, w, 0, 0, 0, fr, to, co, 0⟩ = layW to 0 (w / 4294967296) := by
    show layW to (if to = 4 then co else 0) _ = _
    rw [if_neg ht]
  show (if (M.cas (IntKind.i64.wrap (st + i)) w (OpSt.next ⟨3, [st, ks, t, ls, s], 2, i, w, 0, 0, 0, fr, to, co, 0⟩)).h = true then _ else _, M.cas (IntKind.i64.wrap (st + i)) w (OpSt.next ⟨3, [st, ks, t, ls, s], 2, i, w, 0, 0, 0, fr, to, co, 0⟩)) = _
  rw [e, if_neg (by rw [h]; decide)]
  try rfl
end
set_option maxRecDepth 10000
set_option maxHeartbeats 16000000 in
theorem vTkStep (P : Program) (hs : List (Nat × Nat × List Nat)) : ∀ ins, ins.length = cTkStep.nin → cTkStep.pre ins → tTkStep.sat { cxDp P with hints := hs } (ctrR cTkStep) ins := by
  rintro ins _ ⟨F, M, rfl, hM⟩
  unfold tTkStep
  refine st_and (st_opn (T := takA) (by rfl) ?_) (st_and (st_opn (T := takP1) (by rfl) ?_) (st_and (st_opn (T := takP2) (by rfl) ?_) (st_and (st_opn (T := takP3) (by rfl) ?_) (st_and (st_opn (T := takL) (by rfl) ?_) (st_and (st_opn (T := takS) (by rfl) ?_) (st_and (st_opn (T := takE1) (by rfl) ?_) (st_and (st_opn (T := takE2) (by rfl) ?_) (nomore_take))))))))
  (rintro ps hl ⟨st, ks, t, ls, s, rfl, g1, g2⟩ he
   simp only [List.getElem?_cons_zero, takA, takAObj, Option.some.injEq, EV.u.injEq, U.take.injEq] at he
   subst he
   simp only [List.cons_append, List.nil_append]
   have hTg : True := trivial
   have hG : True := trivial
   skip)
  rotate_left
  (rintro ps hl ⟨st, ks, t, ls, s, pw, pi, pj, rfl, g1, g2, hpw⟩ he
   simp only [List.getElem?_cons_zero, takP1, takP1Obj, Option.some.injEq, EV.u.injEq, U.take.injEq] at he
   subst he
   simp only [List.cons_append, List.nil_append]
   have hTg : True := trivial
   have hG : True := trivial
   skip)
  rotate_left
  (rintro ps hl ⟨st, ks, t, ls, s, pw, pi, pj, rfl, g1, g2, hpw, rfl, hpi⟩ he
   simp only [List.getElem?_cons_zero, takP2, takP2Obj, Option.some.injEq, EV.u.injEq, U.take.injEq] at he
   subst he
   simp only [List.cons_append, List.nil_append]
   have hTg : True := trivial
   have hG : True := trivial
   skip)
  rotate_left
  (rintro ps hl ⟨st, ks, t, ls, s, pw, pi, pj, rfl, g1, g2, hpw, rfl, hpi, hj1, hj2⟩ he
   simp only [List.getElem?_cons_zero, takP3, takP3Obj, Option.some.injEq, EV.u.injEq, U.take.injEq] at he
   subst he
   simp only [List.cons_append, List.nil_append]
   have hTg := tag_next' hpw
   have hG : True := trivial
   skip)
  rotate_left
  (rintro ps hl ⟨st, ks, t, ls, s, i, w, pw, pi, pj, rfl, g1, g2, g3, hw⟩ he
   simp only [List.getElem?_cons_zero, takL, takLObj, Option.some.injEq, EV.u.injEq, U.take.injEq] at he
   subst he
   simp only [List.cons_append, List.nil_append]
   have hTg : True := trivial
   have hG : True := trivial
   skip)
  rotate_left
  (rintro ps hl ⟨st, ks, t, ls, s, i, w, pw, pi, pj, rfl, g1, g2, g3, hw⟩ he
   simp only [List.getElem?_cons_zero, takS, takSObj, Option.some.injEq, EV.u.injEq, U.take.injEq] at he
   subst he
   simp only [List.cons_append, List.nil_append]
   have hG := gen_next hw
   have hTg : True := trivial
   skip)
  rotate_left
  (rintro ps hl ⟨st, ks, t, ls, s, i, w, e, pw, pi, pj, rfl, hne⟩ he
   simp only [List.getElem?_cons_zero, takE1, takE1Obj, Option.some.injEq, EV.u.injEq, U.take.injEq] at he
   subst he
   simp only [List.cons_append, List.nil_append]
   have hTg : True := trivial
   have hG : True := trivial
   skip)
  rotate_left
  (rintro ps hl ⟨st, ks, t, ls, s, i, w, pw, pi, pj, rfl, _⟩ he
   simp only [List.getElem?_cons_zero, takE2, takE2Obj, Option.some.injEq, EV.u.injEq, U.take.injEq] at he
   subst he
   simp only [List.cons_append, List.nil_append]
   have hTg : True := trivial
   have hG : True := trivial
   skip)
  rotate_left
  all_goals
    repeat' (first
      | (first
        | (with_reducible refine st_need ?_ ?_
           focus (simp only [dn, reduceCtorEq, hTg, hG, va_map, Int.zero_mul, Int.add_zero] <;> first | omega | assumption))
        | (with_reducible refine st_and ?_ ?_)
        | (with_reducible exact st_ok)
        | (with_reducible refine st_br (fun hc => ?_) (fun hc => ?_) <;> (simp only [dn, reduceCtorEq, hTg, hG, va_map, Int.zero_mul, Int.add_zero] at hc) <;> (try (exfalso; first | contradiction | omega)))
        | (refine st_call (by rfl) (by simp only [dn, reduceCtorEq, hTg, hG, va_map, Int.zero_mul, Int.add_zero] <;> rfl) ?_ (by simp only [out_load, out_store, out_cas, out_getTop, out_puT, out_read, out_jrd, out_lay] <;> rfl) (by simp only [dn] <;> rfl) ?_
           focus (first | exact ⟨_, _, rfl⟩ | exact ⟨_, _, rfl, (idxW_lo' _ _).1, (idxW_lo' _ _).2, by omega, by omega⟩ | exact ⟨_, _, _, rfl⟩ | exact ⟨_, _, _, _, rfl⟩ | exact ⟨_, rfl, hw⟩ | exact ⟨_, rfl, hpw⟩ | exact ⟨_, rfl, n_load hM _⟩ | exact ⟨_, _, _, _, rfl, n_load hM _⟩ | exact pre_puT (by first | omega | exact (idxW_lo' _ _).1) (by first | omega | exact (idxW_lo' _ _).2) | exact ⟨_, _, _, rfl, by omega, by omega, by omega, by omega, by first | omega | (have h9 := hw.1; omega), by first | omega | (have h9 := hw.2; omega)⟩)))
      | (refine st_mk (by rfl) (by simp only [dn, reduceCtorEq, hTg, hG, va_map] <;> rfl) ?_ (by simp only [dn] <;> rfl) ?_
         focus
           (first | refine ⟨_, _, _, _, _, rfl, ?_⟩ | refine ⟨_, _, _, _, _, _, _, _, rfl, ?_⟩ | refine ⟨_, _, _, _, _, _, _, _, _, _, rfl, ?_⟩ | refine ⟨_, _, _, _, _, _, _, _, _, _, _, rfl, ?_⟩); (repeat' with_reducible apply And.intro) <;> first | rfl | assumption | exact n_load hM _ | exact isWd0 | omega | exact (idxW_lo' _ _).1 | exact (idxW_lo' _ _).2 | exact idxW_hi (by omega) _ | trivial | (exact .inl rfl))
      | (refine st_ret (by simp only [dn, reduceCtorEq, va_map] <;> rfl) ?_
         show _ = [EV.u (U.take (OpSt.step _ M).1), .u (.mem (OpSt.step _ M).2), .b ((OpSt.step _ M).1.line == 9)]
         first
           | rfl
           | (rw [tk0y (by assumption)]; rfl)
           | (rw [tk3y (by assumption)]; rfl)
           | (rw [tk3n (by assumption)]; rfl)
           | (rw [tk2y (by assumption)]; rfl)
           | (rw [tk2n (by assumption)]; rfl)
           | (rw [gv2y (by assumption)]; rfl)
           | (rw [gv2n (by assumption)]; rfl)
           | (rw [gv3y (by assumption)]; rfl)
           | (rw [gv3n (by assumption)]; rfl)
           | (rw [tu1n (by assumption)]; rfl)
           | (rw [tk0n (by omega)]; rfl)
           | (rw [tk1]; rfl)
           | (rw [gv1y (.inl (by assumption))]; rfl)
           | (rw [gv1y (.inr (by assumption))]; rfl)
           | (rw [gv1n (by assumption) (by assumption)]; rfl)
           | (rw [tu1y (by assumption) (fun e => absurd e (by assumption))]; rfl)
           | (rw [tu1y (by assumption) (fun _ => by assumption)]; rfl)
           | (rw [tu1m (by assumption) (by assumption)]; rfl)
           | (rw [tu24y (by assumption) (by assumption)]; rfl)
           | (rw [tu24n (by assumption) (by assumption)]; rfl)
           | (rw [tu20y (by omega) (by assumption)]; rfl)
           | (rw [tu20n (by omega) (by assumption)]; rfl))
      | fail "no step")
theorem hTkStep : cTkStep.Holds objs Tryz.prog := runCtr_holds (X := { cxDp Tryz.prog with hints := hsTkStep }) objsOk mixed hctsDp (callable _ Tryz.func69 (by kernel_rfl) (by kernel_rfl)) (by rintro ins _ ⟨_, _, rfl, _⟩; rfl) (by rw [rTkStep]; exact vTkStep _ _)
set_option maxHeartbeats 16000000 in
theorem vGvStep (P : Program) (hs : List (Nat × Nat × List Nat)) : ∀ ins, ins.length = cGvStep.nin → cGvStep.pre ins → tGvStep.sat { cxDp P with hints := hs } (ctrR cGvStep) ins := by
  rintro ins _ ⟨F, M, rfl, hM⟩
  unfold tGvStep
  refine st_and (st_opn (T := givA) (by rfl) ?_) (st_and (st_opn (T := givL) (by rfl) ?_) (st_and (st_opn (T := givS) (by rfl) ?_) (st_and (st_opn (T := givP1) (by rfl) ?_) (st_and (st_opn (T := givP2) (by rfl) ?_) (st_and (st_opn (T := givP3) (by rfl) ?_) (st_and (st_opn (T := givE1) (by rfl) ?_) (st_and (st_opn (T := givE2) (by rfl) ?_) (st_and (st_opn (T := givR) (by rfl) ?_) (nomore_give)))))))))
  (rintro ps hl ⟨st, ks, t, ls, s, i, rfl, g1, g2, g3⟩ he
   simp only [List.getElem?_cons_zero, givA, givAObj, Option.some.injEq, EV.u.injEq, U.give.injEq] at he
   subst he
   simp only [List.cons_append, List.nil_append]
   have hTg : True := trivial
   have hG : True := trivial
   skip)
  rotate_left
  (rintro ps hl ⟨st, ks, t, ls, s, i, w, rfl, g1, g2, g3, hw⟩ he
   simp only [List.getElem?_cons_zero, givL, givLObj, Option.some.injEq, EV.u.injEq, U.give.injEq] at he
   subst he
   simp only [List.cons_append, List.nil_append]
   have hTg : True := trivial
   have hG : True := trivial
   skip)
  rotate_left
  (rintro ps hl ⟨st, ks, t, ls, s, i, w, rfl, g1, g2, g3, hw⟩ he
   simp only [List.getElem?_cons_zero, givS, givSObj, Option.some.injEq, EV.u.injEq, U.give.injEq] at he
   subst he
   simp only [List.cons_append, List.nil_append]
   have hG := gen_same hw
   have hTg : True := trivial
   skip)
  rotate_left
  (rintro ps hl ⟨st, ks, t, ls, s, i, w, pw, pj, rfl, g1, g2, g3, hpw⟩ he
   simp only [List.getElem?_cons_zero, givP1, givP1Obj, Option.some.injEq, EV.u.injEq, U.give.injEq] at he
   subst he
   simp only [List.cons_append, List.nil_append]
   have hTg : True := trivial
   have hG : True := trivial
   skip)
  rotate_left
  (rintro ps hl ⟨st, ks, t, ls, s, i, w, pw, pj, rfl, g1, g2, g3, hpw, rfl⟩ he
   simp only [List.getElem?_cons_zero, givP2, givP2Obj, Option.some.injEq, EV.u.injEq, U.give.injEq] at he
   subst he
   simp only [List.cons_append, List.nil_append]
   have hTg : True := trivial
   have hG : True := trivial
   skip)
  rotate_left
  (rintro ps hl ⟨st, ks, t, ls, s, i, w, pw, pj, rfl, g1, g2, g3, hpw⟩ he
   simp only [List.getElem?_cons_zero, givP3, givP3Obj, Option.some.injEq, EV.u.injEq, U.give.injEq] at he
   subst he
   simp only [List.cons_append, List.nil_append]
   have hTg := tag_next' hpw
   have hG : True := trivial
   skip)
  rotate_left
  (rintro ps hl ⟨st, ks, t, ls, s, i, w, e, rfl, hne⟩ he
   simp only [List.getElem?_cons_zero, givE1, givE1Obj, Option.some.injEq, EV.u.injEq, U.give.injEq] at he
   subst he
   simp only [List.cons_append, List.nil_append]
   have hTg : True := trivial
   have hG : True := trivial
   skip)
  rotate_left
  (rintro ps hl ⟨st, ks, t, ls, s, i, w, pw, pj, rfl, _⟩ he
   simp only [List.getElem?_cons_zero, givE2, givE2Obj, Option.some.injEq, EV.u.injEq, U.give.injEq] at he
   subst he
   simp only [List.cons_append, List.nil_append]
   have hTg : True := trivial
   have hG : True := trivial
   skip)
  rotate_left
  (rintro ps hl ⟨st, ks, t, ls, s, i, e, rfl, hne⟩ he
   simp only [List.getElem?_cons_zero, givR, givRObj, Option.some.injEq, EV.u.injEq, U.give.injEq] at he
   subst he
   simp only [List.cons_append, List.nil_append]
   have hTg : True := trivial
   have hG : True := trivial
   skip)
  rotate_left
  all_goals
    repeat' (first
      | (first
        | (with_reducible refine st_need ?_ ?_
           focus (simp only [dn, reduceCtorEq, hTg, hG, va_map, Int.zero_mul, Int.add_zero] <;> first | omega | assumption))
        | (with_reducible refine st_and ?_ ?_)
        | (with_reducible exact st_ok)
        | (with_reducible refine st_br (fun hc => ?_) (fun hc => ?_) <;> (simp only [dn, reduceCtorEq, hTg, hG, va_map, Int.zero_mul, Int.add_zero] at hc) <;> (try (exfalso; first | contradiction | omega)))
        | (refine st_call (by rfl) (by simp only [dn, reduceCtorEq, hTg, hG, va_map, Int.zero_mul, Int.add_zero] <;> rfl) ?_ (by simp only [out_load, out_store, out_cas, out_getTop, out_puT, out_read, out_jrd, out_lay] <;> rfl) (by simp only [dn] <;> rfl) ?_
           focus (first | exact ⟨_, _, rfl⟩ | exact ⟨_, _, rfl, (idxW_lo' _ _).1, (idxW_lo' _ _).2, by omega, by omega⟩ | exact ⟨_, _, _, rfl⟩ | exact ⟨_, _, _, _, rfl⟩ | exact ⟨_, rfl, hw⟩ | exact ⟨_, rfl, hpw⟩ | exact ⟨_, rfl, n_load hM _⟩ | exact ⟨_, _, _, _, rfl, n_load hM _⟩ | exact pre_puT (by first | omega | exact (idxW_lo' _ _).1) (by first | omega | exact (idxW_lo' _ _).2) | exact ⟨_, _, _, rfl, by omega, by omega, by omega, by omega, by first | omega | (have h9 := hw.1; omega), by first | omega | (have h9 := hw.2; omega)⟩)))
      | (refine st_mk (by rfl) (by simp only [dn, reduceCtorEq, hTg, hG, va_map] <;> rfl) ?_ (by simp only [dn] <;> rfl) ?_
         focus
           (first | refine ⟨_, _, _, _, _, _, rfl, ?_⟩ | refine ⟨_, _, _, _, _, _, _, rfl, ?_⟩ | refine ⟨_, _, _, _, _, _, _, _, rfl, ?_⟩ | refine ⟨_, _, _, _, _, _, _, _, _, rfl, ?_⟩); (repeat' with_reducible apply And.intro) <;> first | rfl | assumption | exact n_load hM _ | exact isWd0 | omega | exact (idxW_lo' _ _).1 | exact (idxW_lo' _ _).2 | exact idxW_hi (by omega) _ | trivial | (exact .inl rfl))
      | (refine st_ret (by simp only [dn, reduceCtorEq, va_map] <;> rfl) ?_
         show _ = [EV.u (U.give (OpSt.step _ M).1), .u (.mem (OpSt.step _ M).2), .b ((OpSt.step _ M).1.line == 9)]
         first
           | rfl
           | (rw [tk0y (by assumption)]; rfl)
           | (rw [tk3y (by assumption)]; rfl)
           | (rw [tk3n (by assumption)]; rfl)
           | (rw [tk2y (by assumption)]; rfl)
           | (rw [tk2n (by assumption)]; rfl)
           | (rw [gv2y (by assumption)]; rfl)
           | (rw [gv2n (by assumption)]; rfl)
           | (rw [gv3y (by assumption)]; rfl)
           | (rw [gv3n (by assumption)]; rfl)
           | (rw [tu1n (by assumption)]; rfl)
           | (rw [tk0n (by omega)]; rfl)
           | (rw [tk1]; rfl)
           | (rw [gv1y (.inl (by assumption))]; rfl)
           | (rw [gv1y (.inr (by assumption))]; rfl)
           | (rw [gv1n (by assumption) (by assumption)]; rfl)
           | (rw [tu1y (by assumption) (fun e => absurd e (by assumption))]; rfl)
           | (rw [tu1y (by assumption) (fun _ => by assumption)]; rfl)
           | (rw [tu1m (by assumption) (by assumption)]; rfl)
           | (rw [tu24y (by assumption) (by assumption)]; rfl)
           | (rw [tu24n (by assumption) (by assumption)]; rfl)
           | (rw [tu20y (by omega) (by assumption)]; rfl)
           | (rw [tu20n (by omega) (by assumption)]; rfl))
      | fail "no step")
theorem hGvStep : cGvStep.Holds objs Tryz.prog := runCtr_holds (X := { cxDp Tryz.prog with hints := hsGvStep }) objsOk mixed hctsDp (callable _ Tryz.func35 (by kernel_rfl) (by kernel_rfl)) (by rintro ins _ ⟨_, _, rfl, _⟩; rfl) (by rw [rGvStep]; exact vGvStep _ _)
set_option maxHeartbeats 16000000 in
theorem vTuStep (P : Program) (hs : List (Nat × Nat × List Nat)) : ∀ ins, ins.length = cTuStep.nin → cTuStep.pre ins → tTuStep.sat { cxDp P with hints := hs } (ctrR cTuStep) ins := by
  rintro ins _ ⟨F, M, rfl, hM⟩
  unfold tTuStep
  refine st_and (st_opn (T := turA) (by rfl) ?_) (st_and (st_opn (T := turL) (by rfl) ?_) (st_and (st_opn (T := turS) (by rfl) ?_) (st_and (st_opn (T := turE) (by rfl) ?_) (nomore_turn))))
  (rintro ps hl ⟨st, ks, t, ls, s, i, fr, to, co, rfl, g1, g2, g3, g4, g5, g6⟩ he
   simp only [List.getElem?_cons_zero, turA, turAObj, Option.some.injEq, EV.u.injEq, U.turn.injEq] at he
   subst he
   simp only [List.cons_append, List.nil_append]
   have hTg : True := trivial
   have hG : True := trivial
   have hr := may_rng g4
   skip)
  rotate_left
  (rintro ps hl ⟨st, ks, t, ls, s, i, w, fr, to, co, rfl, g1, g2, g3, g4, g5, g6, hw⟩ he
   simp only [List.getElem?_cons_zero, turL, turLObj, Option.some.injEq, EV.u.injEq, U.turn.injEq] at he
   subst he
   simp only [List.cons_append, List.nil_append]
   have hTg : True := trivial
   have hG : True := trivial
   have hr := may_rng g4
   skip)
  rotate_left
  (rintro ps hl ⟨st, ks, t, ls, s, i, w, fr, to, co, rfl, g1, g2, g3, g4, g5, g6, hw⟩ he
   simp only [List.getElem?_cons_zero, turS, turSObj, Option.some.injEq, EV.u.injEq, U.turn.injEq] at he
   subst he
   simp only [List.cons_append, List.nil_append]
   have hG := gen_same hw
   have hTg : True := trivial
   have hr := may_rng g4
   skip)
  rotate_left
  (rintro ps hl ⟨st, ks, t, ls, s, i, w, e, fr, to, co, rfl, _⟩ he
   simp only [List.getElem?_cons_zero, turE, turEObj, Option.some.injEq, EV.u.injEq, U.turn.injEq] at he
   subst he
   simp only [List.cons_append, List.nil_append]
   have hTg : True := trivial
   have hG : True := trivial
   skip)
  rotate_left
  all_goals
    repeat' (first
      | (first
        | (with_reducible refine st_need ?_ ?_
           focus (simp only [dn, reduceCtorEq, hTg, hG, va_map, Int.zero_mul, Int.add_zero] <;> first | omega | assumption))
        | (with_reducible refine st_and ?_ ?_)
        | (with_reducible exact st_ok)
        | (with_reducible refine st_br (fun hc => ?_) (fun hc => ?_) <;> (simp only [dn, reduceCtorEq, hTg, hG, va_map, Int.zero_mul, Int.add_zero] at hc) <;> (try (exfalso; first | contradiction | omega)))
        | (refine st_call (by rfl) (by simp only [dn, reduceCtorEq, hTg, hG, va_map, Int.zero_mul, Int.add_zero] <;> rfl) ?_ (by simp only [out_load, out_store, out_cas, out_getTop, out_puT, out_read, out_jrd, out_lay] <;> rfl) (by simp only [dn] <;> rfl) ?_
           focus (first | exact ⟨_, _, rfl⟩ | exact ⟨_, _, rfl, (idxW_lo' _ _).1, (idxW_lo' _ _).2, by omega, by omega⟩ | exact ⟨_, _, _, rfl⟩ | exact ⟨_, _, _, _, rfl⟩ | exact ⟨_, rfl, hw⟩ | exact ⟨_, rfl, hpw⟩ | exact ⟨_, rfl, n_load hM _⟩ | exact ⟨_, _, _, _, rfl, n_load hM _⟩ | exact pre_puT (by first | omega | exact (idxW_lo' _ _).1) (by first | omega | exact (idxW_lo' _ _).2) | exact ⟨_, _, _, rfl, by omega, by omega, by omega, by omega, by first | omega | (have h9 := hw.1; omega), by first | omega | (have h9 := hw.2; omega)⟩)))
      | (refine st_mk (by rfl) (by simp only [dn, reduceCtorEq, hTg, hG, va_map] <;> rfl) ?_ (by simp only [dn] <;> rfl) ?_
         focus
           (first | refine ⟨_, _, _, _, _, _, _, _, _, rfl, ?_⟩ | refine ⟨_, _, _, _, _, _, _, _, _, _, rfl, ?_⟩ | refine ⟨_, _, _, _, _, _, _, _, _, _, _, rfl, ?_⟩); (repeat' with_reducible apply And.intro) <;> first | rfl | assumption | exact n_load hM _ | exact isWd0 | omega | exact (idxW_lo' _ _).1 | exact (idxW_lo' _ _).2 | exact idxW_hi (by omega) _ | trivial | (exact .inl rfl))
      | (refine st_ret (by simp only [dn, reduceCtorEq, va_map] <;> rfl) ?_
         show _ = [EV.u (U.turn (OpSt.step _ M).1), .u (.mem (OpSt.step _ M).2), .b ((OpSt.step _ M).1.line == 9)]
         first
           | rfl
           | (rw [tk0y (by assumption)]; rfl)
           | (rw [tk3y (by assumption)]; rfl)
           | (rw [tk3n (by assumption)]; rfl)
           | (rw [tk2y (by assumption)]; rfl)
           | (rw [tk2n (by assumption)]; rfl)
           | (rw [gv2y (by assumption)]; rfl)
           | (rw [gv2n (by assumption)]; rfl)
           | (rw [gv3y (by assumption)]; rfl)
           | (rw [gv3n (by assumption)]; rfl)
           | (rw [tu1n (by assumption)]; rfl)
           | (rw [tk0n (by omega)]; rfl)
           | (rw [tk1]; rfl)
           | (rw [gv1y (.inl (by assumption))]; rfl)
           | (rw [gv1y (.inr (by assumption))]; rfl)
           | (rw [gv1n (by assumption) (by assumption)]; rfl)
           | (rw [tu1y (by assumption) (fun e => absurd e (by assumption))]; rfl)
           | (rw [tu1y (by assumption) (fun _ => by assumption)]; rfl)
           | (rw [tu1m (by assumption) (by assumption)]; rfl)
           | (rw [tu24y (by assumption) (by assumption)]; rfl)
           | (rw [tu24n (by assumption) (by assumption)]; rfl)
           | (rw [tu20y (by omega) (by assumption)]; rfl)
           | (rw [tu20n (by omega) (by assumption)]; rfl))
      | fail "no step")
theorem hTuStep : cTuStep.Holds objs Tryz.prog := runCtr_holds (X := { cxDp Tryz.prog with hints := hsTuStep }) objsOk mixed hctsDp (callable _ Tryz.func71 (by kernel_rfl) (by kernel_rfl)) (by rintro ins _ ⟨_, _, rfl, _⟩; rfl) (by rw [rTuStep]; exact vTuStep _ _)
end Go.Proofs.YtdabdbbgaekmdaaGreat
namespace Go.Proofs.YtdabdbbgaekmdaaGreat
set_option linter.unusedVariables false
set_option linter.unusedSimpArgs false
set_option linter.unusedSectionVars false
open Go
set_option maxRecDepth 100000
end Go.Proofs.YtdabdbbgaekmdaaGreat
namespace Go.Proofs.YtdabdbbgaekmdaaGreat
set_option linter.unusedVariables false
set_option linter.unusedSimpArgs false
set_option linter.unusedSectionVars false
open Go Go.RowKit
set_option maxRecDepth 10000
end Go.Proofs.YtdabdbbgaekmdaaGreat
