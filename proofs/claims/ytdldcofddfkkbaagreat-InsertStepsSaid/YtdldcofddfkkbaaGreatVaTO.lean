/- Texts of this proof. -/
import Derived.Test.YtdldcofddfkkbaaGreatB3O
import Derived.KernelRfl
namespace Go.Proofs.YtdldcofddfkkbaaGreat
set_option linter.unusedVariables false
set_option linter.unusedSimpArgs false
set_option linter.unusedSectionVars false
open Go
set_option maxRecDepth 100000
def hsAmong : List (Nat × Nat × List Nat) := []
def tAmongL0 : Tree := (.need (.cmp .leq (.lit 0) (.var 1)) (.br (.cmp .lss (.var 4) (.var 1))
 (.need (.cmp .leq (.lit 0) (.var 4)) (.need (.cmp .lss (.var 4) (.var 1)) (.need (.cmp .lss (.var 4) (.len 0)) (.need (.cmp .leq (.lit 0) (.var 4)) (.need (.cmp .lss (.var 4) (.len 0)) (.br (.cmp .eql (.nth 0 (.var 4)) (.var 3))
 (.ret [.bx (.lit true)])
 (.back 0 4 [.ex (.bin .add .i64 (.var 4) (.lit 1))])))))))
 (.ret [.bx (.lit false)])))
def tAmong : Tree := (.loop 0 4 [.ex (.lit 0)] tAmongL0)
theorem rAmong : runCtr { (cxVa Tryz.prog) with hints := hsAmong } 20 cAmong [] [] = tAmong := by kernel_rfl
def hsApD : List (Nat × Nat × List Nat) := []
def tApDL0 : Tree := (.need (.cmp .leq (.lit 0) (.var 1)) (.br (.cmp .lss (.var 4) (.var 1))
 (.need (.cmp .leq (.lit 0) (.var 4)) (.need (.cmp .lss (.var 4) (.var 1)) (.need (.cmp .lss (.var 4) (.len 0)) (.need (.cmp .leq (.lit 0) (.var 4)) (.need (.cmp .lss (.var 4) (.len 0)) (.br (.cmp .lss (.nth 0 (.var 4)) (.lit 0))
 (.ret [.bx (.lit false)])
 (.need (.cmp .leq (.lit 0) (.var 4)) (.need (.cmp .lss (.var 4) (.var 1)) (.need (.cmp .lss (.var 4) (.len 0)) (.need (.cmp .leq (.lit 0) (.var 4)) (.need (.cmp .lss (.var 4) (.len 0)) (.br (.cmp .geq (.nth 0 (.var 4)) (.var 3))
 (.ret [.bx (.lit false)])
 (.need (.cmp .leq (.lit 0) (.var 4)) (.need (.cmp .leq (.var 4) (.var 2)) (.need (.cmp .leq (.lit 0) (.var 4)) (.need (.cmp .lss (.var 4) (.var 1)) (.need (.cmp .lss (.var 4) (.len 0)) (.need (.cmp .leq (.lit 0) (.var 4)) (.need (.cmp .lss (.var 4) (.len 0)) (.and (.call 0 [.var 0, .ex (.var 4), .ex (.var 2), .ex (.nth 0 (.var 4))] (.br (.var 5)
 (.ret [.bx (.lit false)])
 (.back 0 4 [.ex (.bin .add .i64 (.var 4) (.lit 1))]))) .ok))))))))))))))))))))
 (.ret [.bx (.lit true)])))
def tApD : Tree := (.loop 0 4 [.ex (.lit 0)] tApDL0)
theorem rApD : runCtr { (cxVb Tryz.prog) with hints := hsApD } 20 cApD [] [] = tApD := by kernel_rfl
def hsCe11 : List (Nat × Nat × List Nat) := []
def tCe11L0 : Tree := (.br (.cmp .lss (.var 6) (.var 2))
 (.need (.cmp .leq (.lit 0) (.var 8)) (.need (.cmp .leq (.var 8) (.var 9)) (.need (.cmp .leq (.var 9) (.len 7)) (.need (.cmp .leq (.len 7) (.var 9)) (.need (.cmp .leq (.var 8) (.lit 1000000)) (.apps (some 7) (.var 8) [(.bin .add .i64 (.var 1) (.var 6)), (.bin .add .i64 (.var 3) (.var 6))] (.back 0 6 [.ex (.bin .add .i64 (.var 6) (.lit 1)), .var 10, .ex (.bin .add .i64 (.var 8) (.lit 2)), .ex (.var 11)])))))))
 (.ret [.var 7, .ex (.var 8), .ex (.var 9)]))
def tCe11 : Tree := (.ext (.lst [(.var 0), (.var 4)]) (.loop 0 6 [.ex (.lit 0), .var 6, .ex (.lit 2), .ex (.lit 2)] tCe11L0))
theorem rCe11 : runCtr { (cxVc Tryz.prog) with hints := hsCe11 } 20 cCe11 [] [] = tCe11 := by kernel_rfl
def hsCe13 : List (Nat × Nat × List Nat) := []
def tCe13L0 : Tree := (.br (.cmp .lss (.var 15) (.var 8))
 (.need (.cmp .leq (.lit 0) (.var 17)) (.need (.cmp .leq (.var 17) (.var 18)) (.need (.cmp .leq (.var 18) (.len 16)) (.need (.cmp .leq (.len 16) (.var 18)) (.need (.cmp .leq (.var 17) (.lit 1000000)) (.app (some 16) (.var 17) (.bin .add .i64 (.var 7) (.var 15)) (.back 0 15 [.ex (.bin .add .i64 (.var 15) (.lit 1)), .var 19, .ex (.bin .add .i64 (.var 17) (.lit 1)), .ex (.var 20)])))))))
 (.ret [.var 16, .ex (.var 17), .ex (.var 18)]))
def tCe13 : Tree := (.and (.callm 0 [.ex (.var 0), .ex (.var 1), .ex (.var 2), .ex (.var 3), .ex (.var 4), .ex (.var 5)] (.and (.and (.need (.cmp .leq (.lit 0) (.var 11)) (.need (.cmp .leq (.var 11) (.var 12)) (.need (.cmp .leq (.var 12) (.len 10)) (.need (.cmp .leq (.len 10) (.var 12)) (.need (.cmp .leq (.var 11) (.lit 1000000)) (.apps (some 10) (.var 11) [(.var 6), (.var 9), (.bin .add .i64 (.var 9) (.lit 1)), (.bin .add .i64 (.var 9) (.lit 2))] (.loop 0 15 [.ex (.lit 0), .var 13, .ex (.bin .add .i64 (.var 11) (.lit 4)), .ex (.var 14)] tCe13L0))))))) .ok) .ok))
 (.and (.and (.callm 0 [.ex (.var 0), .ex (.var 1), .ex (.var 2), .ex (.var 3), .ex (.var 4), .ex (.var 5)] (.and (.need (.cmp .leq (.lit 0) (.var 11)) (.need (.cmp .leq (.var 11) (.var 12)) (.need (.cmp .leq (.var 12) (.len 10)) (.need (.cmp .leq (.len 10) (.var 12)) (.need (.cmp .leq (.var 11) (.lit 1000000)) (.apps (some 10) (.var 11) [(.var 6), (.var 9), (.bin .add .i64 (.var 9) (.lit 1)), (.bin .add .i64 (.var 9) (.lit 2))] (.loop 0 15 [.ex (.lit 0), .var 13, .ex (.bin .add .i64 (.var 11) (.lit 4)), .ex (.var 14)] tCe13L0))))))) .ok)) .ok) .ok))
theorem rCe13 : runCtr { (cxVd Tryz.prog) with hints := hsCe13 } 20 cCe13 [] [] = tCe13 := by kernel_rfl
def hsOwn15 : List (Nat × Nat × List Nat) := []
def tOwn15L0 : Tree := (.br (.cmp .lss (.var 17) (.var 2))
 (.need (.cmp .leq (.lit 0) (.var 19)) (.need (.cmp .leq (.var 19) (.var 20)) (.need (.cmp .leq (.var 20) (.len 18)) (.need (.cmp .leq (.len 18) (.var 20)) (.need (.cmp .leq (.var 19) (.lit 1000000)) (.app (some 18) (.var 19) (.bin .add .i64 (.var 1) (.var 17)) (.back 1 17 [.ex (.bin .add .i64 (.var 17) (.lit 1)), .var 21, .ex (.bin .add .i64 (.var 19) (.lit 1)), .ex (.var 22)])))))))
 (.ret [.var 18, .ex (.var 19), .ex (.var 20)]))
def tOwn15L1 : Tree := (.br (.cmp .lss (.var 13) (.bin .mul .i64 (.var 5) (.bin .add .i64 (.lit 4) (.var 2))))
 (.need (.cmp .leq (.lit 0) (.var 15)) (.need (.cmp .leq (.var 15) (.var 16)) (.need (.cmp .leq (.var 16) (.len 14)) (.need (.cmp .leq (.len 14) (.var 16)) (.need (.cmp .leq (.var 15) (.lit 1000000)) (.app (some 14) (.var 15) (.bin .add .i64 (.var 0) (.var 13)) (.back 0 13 [.ex (.bin .add .i64 (.var 13) (.lit 1)), .var 17, .ex (.bin .add .i64 (.var 15) (.lit 1)), .ex (.var 18)])))))))
 (.loop 1 17 [.ex (.lit 0), .var 14, .ex (.var 15), .ex (.var 16)] tOwn15L0))
def tOwn15 : Tree := (.ext (.lst []) (.loop 0 13 [.ex (.lit 0), .var 13, .ex (.lit 0), .ex (.lit 0)] tOwn15L1))
theorem rOwn15 : runCtr { (cxVe Tryz.prog) with hints := hsOwn15 } 20 cOwn15 [] [] = tOwn15 := by kernel_rfl
def hsDF10 : List (Nat × Nat × List Nat) := []
def tDF10 : Tree := (.br (.cmp .lss (.var 3) (.lit 1))
 (.ret [.ex (.lit 3)])
 (.br (.cmp .gtr (.var 3) (.lit 4096))
 (.ret [.ex (.lit 3)])
 (.br (.cmp .lss (.var 2) (.lit 1))
 (.ret [.ex (.lit 2)])
 (.br (.cmp .gtr (.var 2) (.lit 4096))
 (.ret [.ex (.lit 2)])
 (.br (.cmp .lss (.var 0) (.lit 0))
 (.ret [.ex (.lit 2)])
 (.br (.cmp .geq (.var 0) (.var 3))
 (.ret [.ex (.lit 2)])
 (.br (.cmp .lss (.var 1) (.lit 0))
 (.ret [.ex (.lit 2)])
 (.br (.cmp .gtr (.var 1) (.bin .sub .i64 (.var 3) (.var 2)))
 (.ret [.ex (.lit 2)])
 (.br (.cmp .geq (.var 0) (.var 1))
 (.br (.cmp .lss (.var 0) (.bin .add .i64 (.var 1) (.var 2)))
 (.ret [.ex (.lit 2)])
 (.ret [.ex (.lit 0)]))
 (.ret [.ex (.lit 0)]))))))))))
theorem rDF10 : runCtr { (cx Tryz.prog []) with hints := hsDF10 } 20 cDF10 [] [] = tDF10 := by kernel_rfl
def hsDF12 : List (Nat × Nat × List Nat) := []
def tDF12 : Tree := (.br (.cmp .lss (.var 3) (.lit 1))
 (.ret [.ex (.lit 3)])
 (.br (.cmp .gtr (.var 3) (.lit 4096))
 (.ret [.ex (.lit 3)])
 (.br (.cmp .geq (.var 2) (.lit 1))
 (.br (.cmp .leq (.var 2) (.lit 64))
 (.br (.cmp .lss (.var 0) (.lit 0))
 (.ret [.ex (.lit 2)])
 (.br (.cmp .geq (.var 0) (.var 3))
 (.ret [.ex (.lit 2)])
 (.br (.cmp .lss (.var 1) (.lit 0))
 (.ret [.ex (.lit 2)])
 (.br (.cmp .gtr (.var 1) (.bin .sub .i64 (.var 3) (.var 2)))
 (.ret [.ex (.lit 2)])
 (.br (.cmp .geq (.var 0) (.var 1))
 (.br (.cmp .lss (.var 0) (.bin .add .i64 (.var 1) (.var 2)))
 (.ret [.ex (.lit 2)])
 (.ret [.ex (.lit 0)]))
 (.ret [.ex (.lit 0)]))))))
 (.ret [.ex (.lit 2)]))
 (.ret [.ex (.lit 2)]))))
theorem rDF12 : runCtr { (cx Tryz.prog []) with hints := hsDF12 } 20 cDF12 [] [] = tDF12 := by kernel_rfl
def hsDSnd : List (Nat × Nat × List Nat) := []
def tDSnd : Tree := (.br (.cmp .geq (.var 2) (.lit 1))
 (.br (.cmp .leq (.var 2) (.lit 4))
 (.br (.cmp .geq (.var 5) (.lit 1))
 (.br (.cmp .leq (.var 5) (.lit 128))
 (.br (.cmp .geq (.var 0) (.lit 0))
 (.br (.cmp .lss (.var 0) (.lit 4096))
 (.br (.cmp .geq (.var 1) (.lit 0))
 (.ret [.bx (.cmp .lss (.var 1) (.lit 4096))])
 (.ret [.bx (.lit false)]))
 (.ret [.bx (.lit false)]))
 (.ret [.bx (.lit false)]))
 (.ret [.bx (.lit false)]))
 (.ret [.bx (.lit false)]))
 (.ret [.bx (.lit false)]))
 (.ret [.bx (.lit false)]))
theorem rDSnd : runCtr { (cx Tryz.prog []) with hints := hsDSnd } 20 cDSnd [] [] = tDSnd := by kernel_rfl
def hsDF11 : List (Nat × Nat × List Nat) := []
def tDF11 : Tree := (.br (.cmp .lss (.var 6) (.lit 1))
 (.ret [.ex (.lit 3)])
 (.br (.cmp .gtr (.var 6) (.lit 4096))
 (.ret [.ex (.lit 3)])
 (.call 0 [.ex (.var 0), .ex (.var 1), .ex (.var 2), .ex (.var 6)] (.br (.cmp .eql (.var 7) (.lit 0))
 (.br (.cmp .lss (.var 5) (.lit 1))
 (.ret [.ex (.lit 2)])
 (.br (.cmp .gtr (.var 5) (.lit 4294967295))
 (.ret [.ex (.lit 2)])
 (.callm 3 [.ex (.var 0), .ex (.var 1), .ex (.var 2), .ex (.var 3), .ex (.var 4), .ex (.var 5)] (.call 6 [.var 8, .ex (.var 9), .ex (.var 10), .ex (.var 6)] (.br (.var 11)
 (.ret [.ex (.lit 0)])
 (.ret [.ex (.lit 2)]))))))
 (.ret [.ex (.lit 2)])))))
theorem rDF11 : runCtr { (cxVf0 Tryz.prog) with hints := hsDF11 } 20 cDF11 [] [] = tDF11 := by kernel_rfl
def hsDF13 : List (Nat × Nat × List Nat) := []
def tDF13 : Tree := (.br (.cmp .lss (.var 10) (.lit 1))
 (.ret [.ex (.lit 3)])
 (.br (.cmp .gtr (.var 10) (.lit 4096))
 (.ret [.ex (.lit 3)])
 (.call 7 [.ex (.var 0), .ex (.var 1), .ex (.var 2), .ex (.var 3), .ex (.var 4), .ex (.var 5), .ex (.var 10)] (.br (.cmp .eql (.var 11) (.lit 0))
 (.call 1 [.ex (.var 6), .ex (.var 7), .ex (.var 8), .ex (.var 10)] (.br (.cmp .eql (.var 12) (.lit 0))
 (.callm 4 [.ex (.var 0), .ex (.var 1), .ex (.var 2), .ex (.var 3), .ex (.var 4), .ex (.var 5), .ex (.var 6), .ex (.var 7), .ex (.var 8), .ex (.var 9)] (.call 6 [.var 13, .ex (.var 14), .ex (.var 15), .ex (.var 10)] (.br (.var 16)
 (.ret [.ex (.lit 0)])
 (.ret [.ex (.lit 2)]))))
 (.ret [.ex (.lit 2)])))
 (.ret [.ex (.lit 2)])))))
theorem rDF13 : runCtr { (cxVf1 Tryz.prog) with hints := hsDF13 } 20 cDF13 [] [] = tDF13 := by kernel_rfl
def hsDF15 : List (Nat × Nat × List Nat) := []
def tDF15 : Tree := (.br (.cmp .lss (.var 13) (.lit 1))
 (.ret [.ex (.lit 3)])
 (.br (.cmp .gtr (.var 13) (.lit 4096))
 (.ret [.ex (.lit 3)])
 (.and (.call 2 [.ex (.var 0), .ex (.var 1), .ex (.var 2), .ex (.var 3), .ex (.var 4), .ex (.var 5), .ex (.var 6), .ex (.var 7), .ex (.var 8), .ex (.var 9), .ex (.var 10), .ex (.var 11), .ex (.var 12)] (.br (.var 14)
 (.and (.call 8 [.ex (.var 3), .ex (.var 4), .ex (.var 5), .ex (.var 6), .ex (.var 7), .ex (.var 8), .ex (.var 9), .ex (.var 10), .ex (.var 11), .ex (.var 12), .ex (.var 13)] (.br (.cmp .eql (.var 15) (.lit 0))
 (.and (.callm 4 [.ex (.var 3), .ex (.var 4), .ex (.var 5), .ex (.var 6), .ex (.var 7), .ex (.var 8), .ex (.var 9), .ex (.var 10), .ex (.var 11), .ex (.var 12)] (.and (.callm 5 [.ex (.var 0), .ex (.var 1), .ex (.var 2), .ex (.var 3), .ex (.var 4), .ex (.var 5), .ex (.var 6), .ex (.var 7), .ex (.var 8), .ex (.var 9), .ex (.var 10), .ex (.var 11), .ex (.var 12)] (.and (.need (.cmp .leq (.lit 0) (.var 20)) (.need (.cmp .leq (.var 20) (.len 19)) (.need (.cmp .leq (.var 20) (.lit 1000000)) (.br (.cmp .eql (.var 20) (.lit 0))
 (.need (.cmp .leq (.lit 0) (.var 17)) (.need (.cmp .leq (.var 17) (.var 18)) (.and (.call 6 [.var 16, .ex (.var 17), .ex (.var 18), .ex (.var 13)] (.br (.var 22)
 (.ret [.ex (.lit 0)])
 (.ret [.ex (.lit 2)]))) .ok)))
 (.need (.cmp .leq (.lit 0) (.var 17)) (.need (.cmp .leq (.var 17) (.var 18)) (.need (.cmp .leq (.var 18) (.len 16)) (.need (.cmp .leq (.len 16) (.var 18)) (.need (.cmp .leq (.var 17) (.lit 1000000)) (.appr (some 16) (.var 17) 19 (.var 20) (.and (.call 6 [.var 22, .ex (.bin .add .i64 (.var 17) (.var 20)), .ex (.var 23), .ex (.var 13)] (.br (.var 24)
 (.ret [.ex (.lit 0)])
 (.ret [.ex (.lit 2)]))) .ok))))))))))) .ok)) .ok)) .ok)
 (.ret [.ex (.lit 2)]))) .ok)
 (.ret [.ex (.lit 2)]))) .ok)))
theorem rDF15 : runCtr { (cxVf Tryz.prog) with hints := hsDF15 } 20 cDF15 [] [] = tDF15 := by kernel_rfl
end Go.Proofs.YtdldcofddfkkbaaGreat
