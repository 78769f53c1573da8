/- Texts of this proof. -/
import Derived.Test.YtdldcofddfkkbaaGreatB7O
import Derived.KernelRfl
namespace Go.Proofs.YtdldcofddfkkbaaGreat
set_option linter.unusedVariables false
set_option linter.unusedSimpArgs false
set_option linter.unusedSectionVars false
open Go
set_option maxRecDepth 100000
def hsRNew : List (Nat × Nat × List Nat) := []
@[reducible] def tRNewK0 : Tree := (.ext (.mk 23 (vr 0 11 [.ex (.lit 3)])) (.ret [.var 11]))
def tRNew : Tree := (.br (.cmp .lss (.var 10) (.lit 0)) tRNewK0 (.br (.cmp .geq (.var 10) (.var 2)) tRNewK0 (.ext (.mk 18 (vr 0 11 [])) (.ret [.var 11]))))
theorem rRNew : runCtr { (cxMi Tryz.prog) with hints := hsRNew } 20 cRNew [] [(0, [18,23])] = tRNew := by
 dsimp only [tRNew, tRNewK0, va, vr, List.map_cons, List.map_nil, List.cons_append, List.nil_append]
 kernel_rfl
def hsQRNew : List (Nat × Nat × List Nat) := []
@[reducible] def tQRNewK0 : Tree := (.ext (.mk 27 (vr 0 11 [.ex (.lit 3)])) (.ret [.var 11]))
def tQRNew : Tree := (.br (.cmp .lss (.var 10) (.lit 0)) tQRNewK0 (.br (.cmp .geq (.var 10) (.var 2)) tQRNewK0 (.ext (.mk 25 (vr 0 11 [])) (.ret [.var 11]))))
theorem rQRNew : runCtr { (cxMi Tryz.prog) with hints := hsQRNew } 20 cQRNew [] [(0, [25,27])] = tQRNew := by
 dsimp only [tQRNew, tQRNewK0, va, vr, List.map_cons, List.map_nil, List.cons_append, List.nil_append]
 kernel_rfl
def hsRStep : List (Nat × Nat × List Nat) := []
@[reducible] def tRStepK0 : Tree := (.and (.and (.br (.cmp .lss (.var 12) (.lit 0)) (.and (Tree.fail "fold") .ok) (.br (.cmp .geq (.var 12) (.var 4)) (.and (Tree.fail "fold") .ok) (.and (.ext (.mk 19 (vr 2 11 [.ex (.bin .add .i64 (.var 11) (.conv .i64 (.bin .rem .u64 (.bin .and .u64 (.var 14) (.lit 4294967295)) (.lit 3)))), .ex (.lit 0), .ex (.lit 0)])) (.ret [.var 15, .var 13, .bx (.lit false)])) .ok))) .ok) .ok)
def tRStep : Tree := (.and (.opn 0 18 (.call 0 [.var 1, .ex (.var 8)] (.and (.and tRStepK0 (.and tRStepK0 .ok)) (.and (.and tRStepK0 .ok) .ok)))) (.and (.opn 0 19 (.call 0 [.var 1, .ex (.var 13)] (.and (.call 5 [.ex (.var 13), .ex (.var 3), .ex (.var 4), .ex (.var 17)] (.ext (.mk 20 (vr 2 12 (va [17, 18] []))) (.ret [.var 19, .var 16, .bx (.lit false)]))) .ok))) (.and (.opn 0 20 (.and (.call 4 [.ex (.var 15), .ex (.lit 0)] (.and (.call 1 [.var 1, .ex (.bin .add .i64 (.var 3) (.var 12)), .ex (.var 16)] (.ext (.mk 21 (vr 2 14 [])) (.ret [.var 19, .var 18, .bx (.lit false)]))) .ok)) .ok)) (.and (.opn 0 21 (.and (.call 3 [.ex (.var 14)] (.call 4 [.ex (.var 12), .ex (.bin .and .i64 (.bin .add .i64 (.var 17) (.lit 1)) (.lit 281474976710655))] (.and (.call 2 [.var 1, .ex (.var 13), .ex (.var 14), .ex (.var 18)] (.br (.var 21) (.ext (.mk 22 (vr 2 14 [])) (.ret [.var 22, .var 20, .bx (.lit true)])) (.ext (.mk 19 (vr 2 14 [])) (.ret [.var 22, .var 20, .bx (.lit false)])))) .ok))) .ok)) (.and (.opn 0 22 (.ext (.mk 22 (vr 2 14 [])) (.ret [.var 16, .var 1, .bx (.lit true)]))) (.and (.opn 0 23 (.ext (.mk 23 (vr 2 12 [])) (.ret [.var 14, .var 1, .bx (.lit true)]))) (.nomore 0 [18, 19, 20, 21, 22, 23])))))))
theorem rRStep : runCtr { (cxMr Tryz.prog) with hints := hsRStep } 20 cRStep [(0, [18,19,20,21,22,23])] [(0, [18,19,20,21,22,23])] = tRStep := by
 dsimp only [tRStep, tRStepK0, va, vr, List.map_cons, List.map_nil, List.cons_append, List.nil_append]
 kernel_rfl
def hsQRStep : List (Nat × Nat × List Nat) := []
@[reducible] def tQRStepK0 : Tree := (.and (.and (.br (.cmp .lss (.var 12) (.lit 0)) (.and (Tree.fail "fold") .ok) (.br (.cmp .geq (.var 12) (.var 4)) (.and (Tree.fail "fold") .ok) (.and (.ext (.mk 26 (vr 2 11 [.ex (.bin .add .i64 (.var 11) (.conv .i64 (.bin .rem .u64 (.bin .rem .u64 (.var 14) (.lit 4294967296)) (.lit 3)))), .ex (.lit 1), .ex (.lit 0), .ex (.lit 1)])) (.ret [.var 15, .var 13, .bx (.lit false)])) .ok))) .ok) .ok)
@[reducible] def tQRStepK1 : Tree := (.and (.and (.br (.cmp .lss (.var 12) (.lit 0)) (.and (Tree.fail "fold") .ok) (.br (.cmp .geq (.var 12) (.var 4)) (.and (Tree.fail "fold") .ok) (.and (.ext (.mk 26 (vr 2 11 [.ex (.bin .add .i64 (.var 11) (.conv .i64 (.bin .rem .u64 (.bin .rem .u64 (.var 18) (.lit 4294967296)) (.lit 3)))), .ex (.lit 1), .ex (.lit 0), .ex (.lit 1)])) (.ret [.var 19, .var 17, .bx (.lit false)])) .ok))) .ok) .ok)
@[reducible] def tQRStepK2 : Tree := (.ext (.mk 26 (vr 2 15 [])) (.ret [.var 17, .var 1, .bx (.cmp .eql (.var 16) (.lit 9))]))
def tQRStep : Tree := (.and (.opn 0 25 (.call 0 [.var 1, .ex (.var 8)] (.and (.and tQRStepK0 (.and tQRStepK0 .ok)) (.and (.and tQRStepK0 .ok) .ok)))) (.and (.opn 0 26 (.br (.cmp .eql (.var 16) (.lit 0)) (.call 0 [.var 1, .ex (.var 8)] (.and (.and tQRStepK1 (.and tQRStepK1 .ok)) (.and (.and tQRStepK1 .ok) .ok))) (.br (.cmp .eql (.var 16) (.lit 1)) (.br (.cmp .eql (.var 14) (.lit 1)) (.call 0 [.var 1, .ex (.var 13)] (.ext (.mk 26 (vr 2 12 [.ex (.lit 2), .ex (.var 18), .ex (.var 16)])) (.ret [.var 19, .var 17, .bx (.cmp .eql (.var 16) (.lit 9))]))) (.br (.cmp .eql (.var 14) (.lit 2)) (.and (.call 3 [.ex (.var 13), .ex (.var 3), .ex (.var 4), .ex (.var 15)] (.and (.call 1 [.var 1, .ex (.bin .add .i64 (.var 3) (.var 12)), .ex (.conv .u64 (.bin .add .i64 (.var 17) (.lit 1)))] (.ext (.mk 26 (vr 2 12 [.ex (.lit 3), .ex (.var 15), .ex (.var 16)])) (.ret [.var 19, .var 18, .bx (.cmp .eql (.var 16) (.lit 9))]))) .ok)) .ok) (.br (.cmp .eql (.var 14) (.lit 3)) (.and (.call 4 [.ex (.var 12), .ex (.var 15)] (.and (.call 2 [.var 1, .ex (.var 13), .ex (.var 15), .ex (.var 17)] (.br (.var 19) (.ext (.mk 26 (vr 2 12 [.ex (.lit 9), .ex (.var 15), .ex (.lit 9)])) (.ret [.var 20, .var 18, .bx (.lit true)])) (.ext (.mk 26 (vr 2 12 [.ex (.lit 1), .ex (.var 15), .ex (.var 16)])) (.ret [.var 20, .var 18, .bx (.cmp .eql (.var 16) (.lit 9))])))) .ok)) .ok) (.br (.cmp .eql (.var 14) (.lit 9)) (.ext (.mk 26 (vr 2 14 [.ex (.lit 9)])) (.ret [.var 17, .var 1, .bx (.lit true)])) tQRStepK2)))) tQRStepK2))) (.and (.opn 0 27 (.ext (.mk 27 (vr 2 12 [])) (.ret [.var 14, .var 1, .bx (.lit true)]))) (.nomore 0 [25, 26, 27]))))
theorem rQRStep : runCtr { (cxMq Tryz.prog) with hints := hsQRStep } 20 cQRStep [(0, [25,26,27])] [(0, [25,26,27])] = tQRStep := by
 dsimp only [tQRStep, tQRStepK0, tQRStepK1, tQRStepK2, va, vr, List.map_cons, List.map_nil, List.cons_append, List.nil_append]
 kernel_rfl
end Go.Proofs.YtdldcofddfkkbaaGreat
