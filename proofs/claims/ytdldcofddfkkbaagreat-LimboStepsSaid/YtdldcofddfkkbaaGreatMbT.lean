/- The ways of the runs, as a program of ours printed them. -/
import Derived.Test.YtdldcofddfkkbaaGreatMa
import Derived.KernelRfl
namespace Go.Proofs.YtdldcofddfkkbaaGreat
set_option linter.unusedVariables false
set_option linter.unusedSimpArgs false
set_option linter.unusedSectionVars false
open Go
set_option maxRecDepth 100000

def hsRNew : List (Nat × Nat × List Nat) := []
def tRNew : Tree := (.br (.cmp .lss (.var 10) (.lit 0))
 (.ext (.mk 10 (va [0, 1, 2, 3, 4, 5, 6, 7, 8, 9, 10] ([.ex (.lit 3)]))) (.ret [.var 11]))
 (.br (.cmp .geq (.var 10) (.var 2))
 (.ext (.mk 10 (va [0, 1, 2, 3, 4, 5, 6, 7, 8, 9, 10] ([.ex (.lit 3)]))) (.ret [.var 11]))
 (.ext (.mk 5 (va [0, 1, 2, 3, 4, 5, 6, 7, 8, 9, 10] [])) (.ret [.var 11]))))
theorem rRNew : runCtr { (cxMi Tryz.prog) with hints := hsRNew } 20 cRNew [] [(0, [5,10])] = tRNew := by
  dsimp only [tRNew, va, List.map_cons, List.map_nil, List.cons_append, List.nil_append]
  kernel_rfl

def hsQRNew : List (Nat × Nat × List Nat) := []
def tQRNew : Tree := (.br (.cmp .lss (.var 10) (.lit 0))
 (.ext (.mk 14 (va [0, 1, 2, 3, 4, 5, 6, 7, 8, 9, 10] ([.ex (.lit 3)]))) (.ret [.var 11]))
 (.br (.cmp .geq (.var 10) (.var 2))
 (.ext (.mk 14 (va [0, 1, 2, 3, 4, 5, 6, 7, 8, 9, 10] ([.ex (.lit 3)]))) (.ret [.var 11]))
 (.ext (.mk 12 (va [0, 1, 2, 3, 4, 5, 6, 7, 8, 9, 10] [])) (.ret [.var 11]))))
theorem rQRNew : runCtr { (cxMi Tryz.prog) with hints := hsQRNew } 20 cQRNew [] [(0, [12,14])] = tQRNew := by
  dsimp only [tQRNew, va, List.map_cons, List.map_nil, List.cons_append, List.nil_append]
  kernel_rfl

def hsRStep : List (Nat × Nat × List Nat) := []
def tRStep : Tree := (.and (.opn 0 5 (.call 0 [.var 1, .ex (.var 8)] (.and (.and (.and (.and (.br (.cmp .lss (.var 12) (.lit 0))
 (.and (Tree.fail "fold") .ok)
 (.br (.cmp .geq (.var 12) (.var 4))
 (.and (Tree.fail "fold") .ok)
 (.and (.ext (.mk 6 (va [2, 3, 4, 5, 6, 7, 8, 9, 10, 11, 12] ([.ex (.bin .add .i64 (.var 11) (.conv .i64 (.bin .rem .u64 (.bin .and .u64 (.var 14) (.lit 4294967295)) (.lit 3)))), .ex (.lit 0), .ex (.lit 0)]))) (.ret [.var 15, .var 13, .bx (.lit false)])) .ok))) .ok) .ok)
 (.and (.and (.and (.br (.cmp .lss (.var 12) (.lit 0))
 (.and (Tree.fail "fold") .ok)
 (.br (.cmp .geq (.var 12) (.var 4))
 (.and (Tree.fail "fold") .ok)
 (.and (.ext (.mk 6 (va [2, 3, 4, 5, 6, 7, 8, 9, 10, 11, 12] ([.ex (.bin .add .i64 (.var 11) (.conv .i64 (.bin .rem .u64 (.bin .and .u64 (.var 14) (.lit 4294967295)) (.lit 3)))), .ex (.lit 0), .ex (.lit 0)]))) (.ret [.var 15, .var 13, .bx (.lit false)])) .ok))) .ok) .ok) .ok))
 (.and (.and (.and (.and (.br (.cmp .lss (.var 12) (.lit 0))
 (.and (Tree.fail "fold") .ok)
 (.br (.cmp .geq (.var 12) (.var 4))
 (.and (Tree.fail "fold") .ok)
 (.and (.ext (.mk 6 (va [2, 3, 4, 5, 6, 7, 8, 9, 10, 11, 12] ([.ex (.bin .add .i64 (.var 11) (.conv .i64 (.bin .rem .u64 (.bin .and .u64 (.var 14) (.lit 4294967295)) (.lit 3)))), .ex (.lit 0), .ex (.lit 0)]))) (.ret [.var 15, .var 13, .bx (.lit false)])) .ok))) .ok) .ok) .ok) .ok))))
 (.and (.opn 0 6 (.call 0 [.var 1, .ex (.var 13)] (.and (.call 5 [.ex (.var 13), .ex (.var 3), .ex (.var 4), .ex (.var 17)] (.ext (.mk 7 (va [2, 3, 4, 5, 6, 7, 8, 9, 10, 11, 12, 13, 17, 18] [])) (.ret [.var 19, .var 16, .bx (.lit false)]))) .ok)))
 (.and (.opn 0 7 (.and (.call 4 [.ex (.var 15), .ex (.lit 0)] (.and (.call 1 [.var 1, .ex (.bin .add .i64 (.var 3) (.var 12)), .ex (.var 16)] (.ext (.mk 8 (va [2, 3, 4, 5, 6, 7, 8, 9, 10, 11, 12, 13, 14, 15] [])) (.ret [.var 19, .var 18, .bx (.lit false)]))) .ok)) .ok))
 (.and (.opn 0 8 (.and (.call 3 [.ex (.var 14)] (.call 4 [.ex (.var 12), .ex (.bin .and .i64 (.bin .add .i64 (.var 17) (.lit 1)) (.lit 281474976710655))] (.and (.call 2 [.var 1, .ex (.var 13), .ex (.var 14), .ex (.var 18)] (.br (.var 21)
 (.ext (.mk 9 (va [2, 3, 4, 5, 6, 7, 8, 9, 10, 11, 12, 13, 14, 15] [])) (.ret [.var 22, .var 20, .bx (.lit true)]))
 (.ext (.mk 6 (va [2, 3, 4, 5, 6, 7, 8, 9, 10, 11, 12, 13, 14, 15] [])) (.ret [.var 22, .var 20, .bx (.lit false)])))) .ok))) .ok))
 (.and (.opn 0 9 (.ext (.mk 9 (va [2, 3, 4, 5, 6, 7, 8, 9, 10, 11, 12, 13, 14, 15] [])) (.ret [.var 16, .var 1, .bx (.lit true)])))
 (.and (.opn 0 10 (.ext (.mk 10 (va [2, 3, 4, 5, 6, 7, 8, 9, 10, 11, 12, 13] [])) (.ret [.var 14, .var 1, .bx (.lit true)])))
 (.nomore 0 [5, 6, 7, 8, 9, 10])))))))
theorem rRStep : runCtr { (cxMr Tryz.prog) with hints := hsRStep } 20 cRStep [(0, [5,6,7,8,9,10])] [(0, [5,6,7,8,9,10])] = tRStep := by
  dsimp only [tRStep, va, List.map_cons, List.map_nil, List.cons_append, List.nil_append]
  kernel_rfl

def hsQRStep : List (Nat × Nat × List Nat) := []
def tQRStep : Tree := (.and (.opn 0 12 (.call 0 [.var 1, .ex (.var 8)] (.and (.and (.and (.and (.br (.cmp .lss (.var 12) (.lit 0))
 (.and (Tree.fail "fold") .ok)
 (.br (.cmp .geq (.var 12) (.var 4))
 (.and (Tree.fail "fold") .ok)
 (.and (.ext (.mk 13 (va [2, 3, 4, 5, 6, 7, 8, 9, 10, 11, 12] ([.ex (.bin .add .i64 (.var 11) (.conv .i64 (.bin .rem .u64 (.bin .rem .u64 (.var 14) (.lit 4294967296)) (.lit 3)))), .ex (.lit 1), .ex (.lit 0), .ex (.lit 1)]))) (.ret [.var 15, .var 13, .bx (.lit false)])) .ok))) .ok) .ok)
 (.and (.and (.and (.br (.cmp .lss (.var 12) (.lit 0))
 (.and (Tree.fail "fold") .ok)
 (.br (.cmp .geq (.var 12) (.var 4))
 (.and (Tree.fail "fold") .ok)
 (.and (.ext (.mk 13 (va [2, 3, 4, 5, 6, 7, 8, 9, 10, 11, 12] ([.ex (.bin .add .i64 (.var 11) (.conv .i64 (.bin .rem .u64 (.bin .rem .u64 (.var 14) (.lit 4294967296)) (.lit 3)))), .ex (.lit 1), .ex (.lit 0), .ex (.lit 1)]))) (.ret [.var 15, .var 13, .bx (.lit false)])) .ok))) .ok) .ok) .ok))
 (.and (.and (.and (.and (.br (.cmp .lss (.var 12) (.lit 0))
 (.and (Tree.fail "fold") .ok)
 (.br (.cmp .geq (.var 12) (.var 4))
 (.and (Tree.fail "fold") .ok)
 (.and (.ext (.mk 13 (va [2, 3, 4, 5, 6, 7, 8, 9, 10, 11, 12] ([.ex (.bin .add .i64 (.var 11) (.conv .i64 (.bin .rem .u64 (.bin .rem .u64 (.var 14) (.lit 4294967296)) (.lit 3)))), .ex (.lit 1), .ex (.lit 0), .ex (.lit 1)]))) (.ret [.var 15, .var 13, .bx (.lit false)])) .ok))) .ok) .ok) .ok) .ok))))
 (.and (.opn 0 13 (.br (.cmp .eql (.var 16) (.lit 0))
 (.call 0 [.var 1, .ex (.var 8)] (.and (.and (.and (.and (.br (.cmp .lss (.var 12) (.lit 0))
 (.and (Tree.fail "fold") .ok)
 (.br (.cmp .geq (.var 12) (.var 4))
 (.and (Tree.fail "fold") .ok)
 (.and (.ext (.mk 13 (va [2, 3, 4, 5, 6, 7, 8, 9, 10, 11, 12] ([.ex (.bin .add .i64 (.var 11) (.conv .i64 (.bin .rem .u64 (.bin .rem .u64 (.var 18) (.lit 4294967296)) (.lit 3)))), .ex (.lit 1), .ex (.lit 0), .ex (.lit 1)]))) (.ret [.var 19, .var 17, .bx (.lit false)])) .ok))) .ok) .ok)
 (.and (.and (.and (.br (.cmp .lss (.var 12) (.lit 0))
 (.and (Tree.fail "fold") .ok)
 (.br (.cmp .geq (.var 12) (.var 4))
 (.and (Tree.fail "fold") .ok)
 (.and (.ext (.mk 13 (va [2, 3, 4, 5, 6, 7, 8, 9, 10, 11, 12] ([.ex (.bin .add .i64 (.var 11) (.conv .i64 (.bin .rem .u64 (.bin .rem .u64 (.var 18) (.lit 4294967296)) (.lit 3)))), .ex (.lit 1), .ex (.lit 0), .ex (.lit 1)]))) (.ret [.var 19, .var 17, .bx (.lit false)])) .ok))) .ok) .ok) .ok))
 (.and (.and (.and (.and (.br (.cmp .lss (.var 12) (.lit 0))
 (.and (Tree.fail "fold") .ok)
 (.br (.cmp .geq (.var 12) (.var 4))
 (.and (Tree.fail "fold") .ok)
 (.and (.ext (.mk 13 (va [2, 3, 4, 5, 6, 7, 8, 9, 10, 11, 12] ([.ex (.bin .add .i64 (.var 11) (.conv .i64 (.bin .rem .u64 (.bin .rem .u64 (.var 18) (.lit 4294967296)) (.lit 3)))), .ex (.lit 1), .ex (.lit 0), .ex (.lit 1)]))) (.ret [.var 19, .var 17, .bx (.lit false)])) .ok))) .ok) .ok) .ok) .ok)))
 (.br (.cmp .eql (.var 16) (.lit 1))
 (.br (.cmp .eql (.var 14) (.lit 1))
 (.call 0 [.var 1, .ex (.var 13)] (.ext (.mk 13 (va [2, 3, 4, 5, 6, 7, 8, 9, 10, 11, 12, 13] ([.ex (.lit 2), .ex (.var 18), .ex (.var 16)]))) (.ret [.var 19, .var 17, .bx (.cmp .eql (.var 16) (.lit 9))])))
 (.br (.cmp .eql (.var 14) (.lit 2))
 (.and (.call 3 [.ex (.var 13), .ex (.var 3), .ex (.var 4), .ex (.var 15)] (.and (.call 1 [.var 1, .ex (.bin .add .i64 (.var 3) (.var 12)), .ex (.conv .u64 (.bin .add .i64 (.var 17) (.lit 1)))] (.ext (.mk 13 (va [2, 3, 4, 5, 6, 7, 8, 9, 10, 11, 12, 13] ([.ex (.lit 3), .ex (.var 15), .ex (.var 16)]))) (.ret [.var 19, .var 18, .bx (.cmp .eql (.var 16) (.lit 9))]))) .ok)) .ok)
 (.br (.cmp .eql (.var 14) (.lit 3))
 (.and (.call 4 [.ex (.var 12), .ex (.var 15)] (.and (.call 2 [.var 1, .ex (.var 13), .ex (.var 15), .ex (.var 17)] (.br (.var 19)
 (.ext (.mk 13 (va [2, 3, 4, 5, 6, 7, 8, 9, 10, 11, 12, 13] ([.ex (.lit 9), .ex (.var 15), .ex (.lit 9)]))) (.ret [.var 20, .var 18, .bx (.lit true)]))
 (.ext (.mk 13 (va [2, 3, 4, 5, 6, 7, 8, 9, 10, 11, 12, 13] ([.ex (.lit 1), .ex (.var 15), .ex (.var 16)]))) (.ret [.var 20, .var 18, .bx (.cmp .eql (.var 16) (.lit 9))])))) .ok)) .ok)
 (.br (.cmp .eql (.var 14) (.lit 9))
 (.ext (.mk 13 (va [2, 3, 4, 5, 6, 7, 8, 9, 10, 11, 12, 13, 14, 15] ([.ex (.lit 9)]))) (.ret [.var 17, .var 1, .bx (.lit true)]))
 (.ext (.mk 13 (va [2, 3, 4, 5, 6, 7, 8, 9, 10, 11, 12, 13, 14, 15, 16] [])) (.ret [.var 17, .var 1, .bx (.cmp .eql (.var 16) (.lit 9))]))))))
 (.ext (.mk 13 (va [2, 3, 4, 5, 6, 7, 8, 9, 10, 11, 12, 13, 14, 15, 16] [])) (.ret [.var 17, .var 1, .bx (.cmp .eql (.var 16) (.lit 9))])))))
 (.and (.opn 0 14 (.ext (.mk 14 (va [2, 3, 4, 5, 6, 7, 8, 9, 10, 11, 12, 13] [])) (.ret [.var 14, .var 1, .bx (.lit true)])))
 (.nomore 0 [12, 13, 14]))))
theorem rQRStep : runCtr { (cxMq Tryz.prog) with hints := hsQRStep } 20 cQRStep [(0, [12,13,14])] [(0, [12,13,14])] = tQRStep := by
  dsimp only [tQRStep, va, List.map_cons, List.map_nil, List.cons_append, List.nil_append]
  kernel_rfl

def hsRErr : List (Nat × Nat × List Nat) := []
def tRErr : Tree := (.and (.opn 0 5 (.ext (.mk 5 (va [1, 2, 3, 4, 5, 6, 7, 8, 9, 10, 11] [])) (.ret [.var 12, .ex (.lit 14)])))
 (.and (.opn 0 6 (.ext (.mk 6 (va [1, 2, 3, 4, 5, 6, 7, 8, 9, 10, 11, 12, 13, 14] [])) (.ret [.var 15, .ex (.lit 14)])))
 (.and (.opn 0 7 (.ext (.mk 7 (va [1, 2, 3, 4, 5, 6, 7, 8, 9, 10, 11, 12, 13, 14] [])) (.ret [.var 15, .ex (.lit 14)])))
 (.and (.opn 0 8 (.ext (.mk 8 (va [1, 2, 3, 4, 5, 6, 7, 8, 9, 10, 11, 12, 13, 14] [])) (.ret [.var 15, .ex (.lit 14)])))
 (.and (.opn 0 9 (.ext (.mk 9 (va [1, 2, 3, 4, 5, 6, 7, 8, 9, 10, 11, 12, 13, 14] [])) (.ret [.var 15, .ex (.lit 0)])))
 (.and (.opn 0 10 (.ext (.mk 10 (va [1, 2, 3, 4, 5, 6, 7, 8, 9, 10, 11, 12] [])) (.ret [.var 13, .ex (.var 12)])))
 (.nomore 0 [5, 6, 7, 8, 9, 10])))))))
theorem rRErr : runCtr { (cxMi Tryz.prog) with hints := hsRErr } 20 cRErr [(0, [5,6,7,8,9,10])] [(0, [5,6,7,8,9,10])] = tRErr := by
  dsimp only [tRErr, va, List.map_cons, List.map_nil, List.cons_append, List.nil_append]
  kernel_rfl

def hsQRErr : List (Nat × Nat × List Nat) := []
def tQRErr : Tree := (.and (.opn 0 12 (.ext (.mk 12 (va [1, 2, 3, 4, 5, 6, 7, 8, 9, 10, 11] [])) (.ret [.var 12, .ex (.lit 14)])))
 (.and (.opn 0 13 (.br (.cmp .eql (.var 15) (.lit 9))
 (.ext (.mk 13 (va [1, 2, 3, 4, 5, 6, 7, 8, 9, 10, 11, 12, 13, 14, 15] [])) (.ret [.var 16, .ex (.lit 0)]))
 (.ext (.mk 13 (va [1, 2, 3, 4, 5, 6, 7, 8, 9, 10, 11, 12, 13, 14, 15] [])) (.ret [.var 16, .ex (.lit 14)]))))
 (.and (.opn 0 14 (.ext (.mk 14 (va [1, 2, 3, 4, 5, 6, 7, 8, 9, 10, 11, 12] [])) (.ret [.var 13, .ex (.var 12)])))
 (.nomore 0 [12, 13, 14]))))
theorem rQRErr : runCtr { (cxMi Tryz.prog) with hints := hsQRErr } 20 cQRErr [(0, [12,13,14])] [(0, [12,13,14])] = tQRErr := by
  dsimp only [tQRErr, va, List.map_cons, List.map_nil, List.cons_append, List.nil_append]
  kernel_rfl

end Go.Proofs.YtdldcofddfkkbaaGreat
