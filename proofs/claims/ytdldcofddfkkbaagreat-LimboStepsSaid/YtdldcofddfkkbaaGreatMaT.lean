/- The ways of the runs, as a program of ours printed them. -/
import Derived.Test.YtdldcofddfkkbaaGreatMa
import Derived.KernelRfl
namespace Go.Proofs.YtdldcofddfkkbaaGreat
set_option linter.unusedVariables false
set_option linter.unusedSimpArgs false
set_option linter.unusedSectionVars false
open Go
set_option maxRecDepth 100000

def hsGetTop : List (Nat × Nat × List Nat) := [(81, 2, [0])]
def tGetTop : Tree := (.and (.and (.and (.ret [.ex (.bin .sub .i64 (.conv .i64 (.bin .and .u64 (.bin .shr .u64 (.var 0) (.lit 0)) (.lit 65535))) (.lit 1)), .ex (.conv .i64 (.bin .and .u64 (.bin .shr .u64 (.var 0) (.lit 16)) (.lit 281474976710655)))]) .ok) .ok) .ok)
theorem rGetTop : runCtr { (cx Tryz.prog []) with hints := hsGetTop } 20 cGetTop [] [] = tGetTop := by kernel_rfl

def hsPuT : List (Nat × Nat × List Nat) := []
def tPuT : Tree := (.br (.cmp .lss (.var 0) (.lit (-1)))
 (.ret [.ex (.lit 0), .ex (.lit 3)])
 (.br (.cmp .gtr (.var 0) (.lit 65534))
 (.ret [.ex (.lit 0), .ex (.lit 3)])
 (.br (.cmp .lss (.var 1) (.lit 0))
 (.ret [.ex (.lit 0), .ex (.lit 3)])
 (.br (.cmp .gtr (.var 1) (.lit 281474976710655))
 (.ret [.ex (.lit 0), .ex (.lit 3)])
 (.and (.and (.and (.and (.ret [.ex (.bin .or .u64 (.bin .or .u64 (.lit 0) (.bin .shl .u64 (.conv .u64 (.bin .add .i64 (.var 0) (.lit 1))) (.lit 0))) (.bin .shl .u64 (.conv .u64 (.var 1)) (.lit 16))), .ex (.lit 0)]) .ok) .ok) .ok) .ok)))))
theorem rPuT : runCtr { (cx Tryz.prog []) with hints := hsPuT } 20 cPuT [] [] = tPuT := by kernel_rfl

def hsRead : List (Nat × Nat × List Nat) := []
def tRead : Tree := (.call 0 [.ex (.var 3)] (.br (.cmp .geq (.var 4) (.var 2))
 (.ret [.ex (.lit (-1))])
 (.ret [.ex (.var 4)])))
theorem rRead : runCtr { (cx Tryz.prog ctsKR) with hints := hsRead } 20 cRead [] [] = tRead := by kernel_rfl

def hsQIdx : List (Nat × Nat × List Nat) := []
def tQIdx : Tree := (.br (.cmp .geq (.bin .sub .i64 (.conv .i64 (.bin .rem .u64 (.var 3) (.lit 65536))) (.lit 1)) (.var 2))
 (.ret [.ex (.lit (-1))])
 (.ret [.ex (.bin .sub .i64 (.conv .i64 (.bin .rem .u64 (.var 3) (.lit 65536))) (.lit 1))]))
theorem rQIdx : runCtr { (cx Tryz.prog []) with hints := hsQIdx } 20 cQIdx [] [] = tQIdx := by kernel_rfl

def hsQTop : List (Nat × Nat × List Nat) := []
def tQTop : Tree := (.ret [.ex (.bin .or .u64 (.conv .u64 (.bin .add .i64 (.var 0) (.lit 1))) (.bin .shl .u64 (.bin .add .u64 (.bin .shr .u64 (.var 1) (.lit 16)) (.lit 1)) (.lit 16)))])
theorem rQTop : runCtr { (cx Tryz.prog []) with hints := hsQTop } 20 cQTop [] [] = tQTop := by kernel_rfl

def hsTurn : List (Nat × Nat × List Nat) := [(241, 5, [0])]
def tTurnL0 : Tree := (.br (.cmp .lss (.var 11) (.var 4))
 (.br (.cmp .geq (.var 11) (.var 9))
 (.br (.cmp .eql (.var 11) (.var 5))
 (.back 0 11 [.ex (.bin .add .i64 (.var 11) (.lit 1))])
 (.and (.and (.ret [.ex (.lit 1), .ex (.var 11)]) .ok) .ok))
 (.back 0 11 [.ex (.bin .add .i64 (.var 11) (.lit 1))]))
 (.ret [.ex (.lit 2), .ex (.var 8)]))
def tTurn : Tree := (.rng (.loop 0 11 [.ex (.lit 0)] tTurnL0))
theorem rTurn : runCtr { (cxEF Tryz.prog lTurn) with hints := hsTurn } 20 cTurn [] [] = tTurn := by kernel_rfl

def hsAdd : List (Nat × Nat × List Nat) := []
def tAdd : Tree := (.and (.opn 0 0 (.br (.cmp .lss (.var 1) (.lit 0))
 (.ext (.mk 0 [.var 3, .ex (.var 4), .ex (.lit 4), .ex (.var 1), .ex (.lit 0), .ex (.lit 0), .bx (.lit false), .ex (.bin .add .i64 (.var 10) (.lit 1))]) (.ret [.var 11, .ex (.lit 0)]))
 (.br (.cmp .geq (.var 1) (.var 4))
 (.ext (.mk 0 [.var 3, .ex (.var 4), .ex (.lit 4), .ex (.var 1), .ex (.lit 0), .ex (.lit 0), .bx (.lit false), .ex (.bin .add .i64 (.var 10) (.lit 1))]) (.ret [.var 11, .ex (.lit 0)]))
 (.need (.cmp .leq (.lit 0) (.var 1)) (.need (.cmp .lss (.var 1) (.lit 4096)) (.need (.cmp .leq (.lit 0) (.var 1)) (.need (.cmp .lss (.var 1) (.len 3)) (.need (.cmp .leq (.lit 0) (.var 1)) (.need (.cmp .lss (.var 1) (.len 3)) (.need (.cmp .leq (.lit 0) (.var 1)) (.need (.cmp .lss (.var 1) (.len 3)) (.ext (.setl 3 (.var 1) (.bin .add .u64 (.nth 3 (.var 1)) (.var 2))) (.ext (.mk 0 [.var 11, .ex (.var 4), .ex (.lit 4), .ex (.var 1), .ex (.nth 3 (.var 1)), .ex (.bin .add .u64 (.nth 3 (.var 1)) (.var 2)), .bx (.lit true), .ex (.bin .add .i64 (.var 10) (.lit 1))]) (.ret [.var 12, .ex (.bin .add .u64 (.nth 3 (.var 1)) (.var 2))]))))))))))))))
 (.nomore 0 [0]))
theorem rAdd : runCtr { (cx Tryz.prog []) with hints := hsAdd } 20 cAdd [(0, [0])] [(0, [0])] = tAdd := by kernel_rfl

def hsQAdd : List (Nat × Nat × List Nat) := []
def tQAdd : Tree := (.and (.opn 0 3 (.br (.cmp .lss (.var 1) (.lit 0))
 (.ext (.mk 3 [.var 3, .ex (.var 4), .ex (.lit 4), .ex (.var 1), .ex (.lit 0), .ex (.lit 0), .bx (.lit false), .ex (.bin .add .i64 (.var 10) (.lit 1))]) (.ret [.var 11, .ex (.lit 0)]))
 (.need (.cmp .leq (.lit 0) (.var 4)) (.br (.cmp .geq (.var 1) (.var 4))
 (.need (.cmp .leq (.lit 0) (.var 4)) (.ext (.mk 3 [.var 3, .ex (.var 4), .ex (.lit 4), .ex (.var 1), .ex (.lit 0), .ex (.lit 0), .bx (.lit false), .ex (.bin .add .i64 (.var 10) (.lit 1))]) (.ret [.var 11, .ex (.lit 0)])))
 (.need (.cmp .leq (.lit 0) (.var 1)) (.need (.cmp .lss (.var 1) (.var 4)) (.need (.cmp .lss (.var 1) (.len 3)) (.need (.cmp .leq (.lit 0) (.var 1)) (.need (.cmp .lss (.var 1) (.len 3)) (.need (.cmp .leq (.lit 0) (.var 4)) (.need (.cmp .leq (.lit 0) (.var 1)) (.need (.cmp .lss (.var 1) (.var 4)) (.need (.cmp .lss (.var 1) (.len 3)) (.need (.cmp .leq (.lit 0) (.var 1)) (.need (.cmp .lss (.var 1) (.len 3)) (.need (.cmp .leq (.lit 0) (.var 1)) (.need (.cmp .lss (.var 1) (.var 4)) (.need (.cmp .lss (.var 1) (.len 3)) (.need (.cmp .leq (.lit 0) (.var 1)) (.need (.cmp .lss (.var 1) (.len 3)) (.ext (.setl 3 (.var 1) (.bin .add .u64 (.nth 3 (.var 1)) (.var 2))) (.need (.cmp .leq (.lit 0) (.var 1)) (.need (.cmp .lss (.var 1) (.var 4)) (.need (.cmp .lss (.var 1) (.len 11)) (.need (.cmp .leq (.lit 0) (.var 1)) (.need (.cmp .lss (.var 1) (.len 11)) (.ext (.mk 3 [.var 11, .ex (.var 4), .ex (.lit 4), .ex (.var 1), .ex (.nth 3 (.var 1)), .ex (.nth 11 (.var 1)), .bx (.lit true), .ex (.bin .add .i64 (.var 10) (.lit 1))]) (.ret [.var 12, .ex (.nth 11 (.var 1))]))))))))))))))))))))))))))))
 (.nomore 0 [3]))
theorem rQAdd : runCtr { (cx Tryz.prog []) with hints := hsQAdd } 20 cQAdd [(0, [3])] [(0, [3])] = tQAdd := by kernel_rfl

end Go.Proofs.YtdldcofddfkkbaaGreat
