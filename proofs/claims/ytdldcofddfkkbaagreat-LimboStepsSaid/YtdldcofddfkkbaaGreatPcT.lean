/- The ways of the runs, as a program of ours printed them. -/
import Derived.Test.YtdldcofddfkkbaaGreatPc
import Derived.KernelRfl
namespace Go.Proofs.YtdldcofddfkkbaaGreat
set_option linter.unusedVariables false
set_option linter.unusedSimpArgs false
set_option linter.unusedSectionVars false
open Go
set_option maxRecDepth 100000

def hsSFits : List (Nat × Nat × List Nat) := []
def tSFits : Tree := (.br (.cmp .lss (.var 3) (.lit 1))
 (.ret [.ex (.lit 3)])
 (.br (.cmp .gtr (.var 3) (.lit 4096))
 (.ret [.ex (.lit 3)])
 (.br (.cmp .geq (.var 2) (.lit 1))
 (.br (.cmp .leq (.var 2) (.lit 4096))
 (.br (.cmp .lss (.var 0) (.lit 0))
 (.ret [.ex (.lit 2)])
 (.br (.cmp .geq (.var 0) (.var 3))
 (.ret [.ex (.lit 2)])
 (.br (.cmp .lss (.var 1) (.lit 0))
 (.ret [.ex (.lit 2)])
 (.br (.cmp .gtr (.var 1) (.bin .sub .i64 (.var 3) (.var 2)))
 (.ret [.ex (.lit 2)])
 (.br (.cmp .geq (.var 0) (.var 1))
 (.br (.cmp .lss (.var 0) (.bin .add .i64 (.var 1) (.var 2)))
 (.ret [.ex (.lit 2)])
 (.ret [.ex (.lit 0)]))
 (.ret [.ex (.lit 0)]))))))
 (.ret [.ex (.lit 2)]))
 (.ret [.ex (.lit 2)]))))
theorem rSFits : runCtr { (cx Tryz.prog []) with hints := hsSFits } 20 cSFits [] [] = tSFits := by kernel_rfl

def hsEFits : List (Nat × Nat × List Nat) := []
def tEFits : Tree := (.br (.cmp .lss (.var 3) (.lit 1))
 (.ret [.ex (.lit 3)])
 (.br (.cmp .gtr (.var 3) (.lit 4096))
 (.ret [.ex (.lit 3)])
 (.br (.cmp .geq (.var 2) (.lit 1))
 (.br (.cmp .leq (.var 2) (.lit 64))
 (.br (.cmp .lss (.var 0) (.lit 0))
 (.ret [.ex (.lit 2)])
 (.br (.cmp .geq (.var 0) (.var 3))
 (.ret [.ex (.lit 2)])
 (.br (.cmp .lss (.var 1) (.lit 0))
 (.ret [.ex (.lit 2)])
 (.br (.cmp .gtr (.var 1) (.bin .sub .i64 (.var 3) (.var 2)))
 (.ret [.ex (.lit 2)])
 (.br (.cmp .geq (.var 0) (.var 1))
 (.br (.cmp .lss (.var 0) (.bin .add .i64 (.var 1) (.var 2)))
 (.ret [.ex (.lit 2)])
 (.ret [.ex (.lit 0)]))
 (.ret [.ex (.lit 0)]))))))
 (.ret [.ex (.lit 2)]))
 (.ret [.ex (.lit 2)]))))
theorem rEFits : runCtr { (cx Tryz.prog []) with hints := hsEFits } 20 cEFits [] [] = tEFits := by kernel_rfl

def hsSnd15 : List (Nat × Nat × List Nat) := []
def tSnd15 : Tree := (.br (.cmp .geq (.var 2) (.lit 1))
 (.br (.cmp .leq (.var 2) (.lit 4))
 (.br (.cmp .geq (.var 5) (.lit 1))
 (.br (.cmp .leq (.var 5) (.lit 128))
 (.br (.cmp .geq (.var 0) (.lit 0))
 (.br (.cmp .lss (.var 0) (.lit 4096))
 (.br (.cmp .geq (.var 1) (.lit 0))
 (.ret [.bx (.cmp .lss (.var 1) (.lit 4096))])
 (.ret [.bx (.lit false)]))
 (.ret [.bx (.lit false)]))
 (.ret [.bx (.lit false)]))
 (.ret [.bx (.lit false)]))
 (.ret [.bx (.lit false)]))
 (.ret [.bx (.lit false)]))
 (.ret [.bx (.lit false)]))
theorem rSnd15 : runCtr { (cx Tryz.prog []) with hints := hsSnd15 } 20 cSnd15 [] [] = tSnd15 := by kernel_rfl

def hsAFits : List (Nat × Nat × List Nat) := []
def tAFitsL0 : Tree := (.br (.cmp .geq (.var 17) (.lit 0))
 (.need (.cmp .leq (.lit 0) (.var 17)) (.need (.cmp .lss (.var 17) (.var 6)) (.need (.cmp .lss (.var 17) (.len 16)) (.need (.cmp .leq (.lit 0) (.var 17)) (.need (.cmp .lss (.var 17) (.len 16)) (.br (.cmp .neq (.nth 16 (.var 17)) (.lit 0))
 (.ret [.ex (.lit 2)])
 (.need (.cmp .leq (.lit 0) (.var 17)) (.need (.cmp .lss (.var 17) (.var 6)) (.need (.cmp .lss (.var 17) (.len 16)) (.need (.cmp .leq (.lit 0) (.var 17)) (.need (.cmp .lss (.var 17) (.len 16)) (.ext (.setl 16 (.var 17) (.lit 1)) (.br (.cmp .geq (.var 18) (.lit 1))
 (.back 2 16 [.var 19, .ex (.lit (-1)), .ex (.var 18)])
 (.back 2 16 [.var 19, .ex (.bin .sub .i64 (.bin .add .i64 (.var 4) (.bin .add .i64 (.var 18) (.lit 1))) (.lit 1)), .ex (.bin .add .i64 (.var 18) (.lit 1))]))))))))))))))
 (.ret [.ex (.lit 0)]))
def tAFitsL1 : Tree := (.br (.cmp .geq (.var 14) (.lit 0))
 (.need (.cmp .leq (.lit 0) (.var 14)) (.need (.cmp .lss (.var 14) (.var 6)) (.need (.cmp .lss (.var 14) (.len 13)) (.need (.cmp .leq (.lit 0) (.var 14)) (.need (.cmp .lss (.var 14) (.len 13)) (.br (.cmp .neq (.nth 13 (.var 14)) (.lit 0))
 (.ret [.ex (.lit 2)])
 (.need (.cmp .leq (.lit 0) (.var 14)) (.need (.cmp .lss (.var 14) (.var 6)) (.need (.cmp .lss (.var 14) (.len 13)) (.need (.cmp .leq (.lit 0) (.var 14)) (.need (.cmp .lss (.var 14) (.len 13)) (.ext (.setl 13 (.var 14) (.lit 1)) (.br (.cmp .geq (.var 15) (.var 2))
 (.back 1 13 [.var 16, .ex (.lit (-1)), .ex (.var 15)])
 (.back 1 13 [.var 16, .ex (.bin .sub .i64 (.bin .add .i64 (.var 3) (.bin .add .i64 (.var 15) (.lit 1))) (.lit 1)), .ex (.bin .add .i64 (.var 15) (.lit 1))]))))))))))))))
 (.loop 2 16 [.var 13, .ex (.bin .sub .i64 (.bin .add .i64 (.var 4) (.lit 1)) (.lit 1)), .ex (.lit 1)] tAFitsL0))
def tAFitsL2 : Tree := (.br (.cmp .geq (.var 11) (.lit 0))
 (.need (.cmp .leq (.lit 0) (.var 11)) (.need (.cmp .lss (.var 11) (.var 6)) (.need (.cmp .lss (.var 11) (.len 10)) (.need (.cmp .leq (.lit 0) (.var 11)) (.need (.cmp .lss (.var 11) (.len 10)) (.br (.cmp .neq (.nth 10 (.var 11)) (.lit 0))
 (.ret [.ex (.lit 2)])
 (.need (.cmp .leq (.lit 0) (.var 11)) (.need (.cmp .lss (.var 11) (.var 6)) (.need (.cmp .lss (.var 11) (.len 10)) (.need (.cmp .leq (.lit 0) (.var 11)) (.need (.cmp .lss (.var 11) (.len 10)) (.ext (.setl 10 (.var 11) (.lit 1)) (.br (.cmp .geq (.var 12) (.var 2))
 (.back 0 10 [.var 13, .ex (.lit (-1)), .ex (.var 12)])
 (.back 0 10 [.var 13, .ex (.bin .sub .i64 (.bin .add .i64 (.var 1) (.bin .add .i64 (.var 12) (.lit 1))) (.lit 1)), .ex (.bin .add .i64 (.var 12) (.lit 1))]))))))))))))))
 (.br (.cmp .geq (.lit 0) (.var 2))
 (.loop 1 13 [.var 10, .ex (.lit (-1)), .ex (.lit 0)] tAFitsL1)
 (.loop 1 13 [.var 10, .ex (.bin .sub .i64 (.bin .add .i64 (.var 3) (.lit 1)) (.lit 1)), .ex (.lit 1)] tAFitsL1)))
def tAFits : Tree := (.br (.cmp .lss (.var 6) (.lit 1))
 (.ret [.ex (.lit 3)])
 (.br (.cmp .gtr (.var 6) (.lit 4096))
 (.ret [.ex (.lit 3)])
 (.call 0 [.ex (.var 0), .ex (.var 1), .ex (.var 2), .ex (.var 6)] (.br (.cmp .eql (.var 7) (.lit 0))
 (.br (.cmp .lss (.var 5) (.lit 1))
 (.ret [.ex (.lit 2)])
 (.br (.cmp .gtr (.var 5) (.lit 4294967295))
 (.ret [.ex (.lit 2)])
 (.br (.cmp .lss (.var 3) (.lit 0))
 (.ret [.ex (.lit 2)])
 (.br (.cmp .gtr (.var 3) (.bin .sub .i64 (.var 6) (.var 2)))
 (.ret [.ex (.lit 2)])
 (.br (.cmp .lss (.var 4) (.lit 0))
 (.ret [.ex (.lit 2)])
 (.br (.cmp .geq (.var 4) (.var 6))
 (.ret [.ex (.lit 2)])
 (.need (.cmp .leq (.lit 0) (.var 6)) (.need (.cmp .leq (.var 6) (.lit 1000000)) (.ext (.repl (.var 6) (.lit 0)) (.need (.cmp .leq (.lit 0) (.var 0)) (.need (.cmp .lss (.var 0) (.var 6)) (.need (.cmp .lss (.var 0) (.len 8)) (.need (.cmp .leq (.lit 0) (.var 0)) (.need (.cmp .lss (.var 0) (.len 8)) (.ext (.setl 8 (.var 0) (.lit 1)) (.and (.and (.and (.and (.br (.cmp .geq (.lit 0) (.var 2))
 (.loop 0 10 [.var 9, .ex (.lit (-1)), .ex (.lit 0)] tAFitsL2)
 (.loop 0 10 [.var 9, .ex (.bin .sub .i64 (.bin .add .i64 (.var 1) (.lit 1)) (.lit 1)), .ex (.lit 1)] tAFitsL2)) .ok) .ok) .ok) .ok))))))))))))))))
 (.ret [.ex (.lit 2)])))))
theorem rAFits : runCtr { (cxPar Tryz.prog) with hints := hsAFits } 20 cAFits [] [] = tAFits := by kernel_rfl

def hsHeld1 : List (Nat × Nat × List Nat) := []
def tHeld1L0 : Tree := (.br (.cmp .lss (.var 14) (.var 8))
 (.need (.cmp .leq (.lit 0) (.var 16)) (.need (.cmp .leq (.var 16) (.var 17)) (.need (.cmp .leq (.var 17) (.len 15)) (.need (.cmp .leq (.len 15) (.var 17)) (.need (.cmp .leq (.var 16) (.lit 1000000)) (.app (some 15) (.var 16) (.bin .add .i64 (.var 7) (.var 14)) (.back 1 14 [.ex (.bin .add .i64 (.var 14) (.lit 1)), .var 18, .ex (.bin .add .i64 (.var 16) (.lit 1)), .ex (.var 19)])))))))
 (.ret [.var 15, .ex (.var 16), .ex (.var 17)]))
def tHeld1L1 : Tree := (.br (.cmp .lss (.var 10) (.var 2))
 (.need (.cmp .leq (.lit 0) (.var 12)) (.need (.cmp .leq (.var 12) (.var 13)) (.need (.cmp .leq (.var 13) (.len 11)) (.need (.cmp .leq (.len 11) (.var 13)) (.need (.cmp .leq (.var 12) (.lit 1000000)) (.apps (some 11) (.var 12) [(.bin .add .i64 (.var 1) (.var 10)), (.bin .add .i64 (.var 3) (.var 10))] (.back 0 10 [.ex (.bin .add .i64 (.var 10) (.lit 1)), .var 14, .ex (.bin .add .i64 (.var 12) (.lit 2)), .ex (.var 15)])))))))
 (.loop 1 14 [.ex (.lit 0), .var 11, .ex (.var 12), .ex (.var 13)] tHeld1L0))
def tHeld1 : Tree := (.ext (.lst [(.var 0), (.var 4), (.var 6), (.var 9), (.bin .add .i64 (.var 9) (.lit 1)), (.bin .add .i64 (.var 9) (.lit 2))]) (.loop 0 10 [.ex (.lit 0), .var 10, .ex (.lit 6), .ex (.lit 6)] tHeld1L1))
theorem rHeld1 : runCtr { (cxPhe cHeld1.fn 29 8 50 Tryz.prog) with hints := hsHeld1 } 20 cHeld1 [] [] = tHeld1 := by kernel_rfl

def hsHeld2 : List (Nat × Nat × List Nat) := []
def tHeld2L0 : Tree := (.br (.cmp .lss (.var 14) (.var 8))
 (.need (.cmp .leq (.lit 0) (.var 16)) (.need (.cmp .leq (.var 16) (.var 17)) (.need (.cmp .leq (.var 17) (.len 15)) (.need (.cmp .leq (.len 15) (.var 17)) (.need (.cmp .leq (.var 16) (.lit 1000000)) (.app (some 15) (.var 16) (.bin .add .i64 (.var 7) (.var 14)) (.back 1 14 [.ex (.bin .add .i64 (.var 14) (.lit 1)), .var 18, .ex (.bin .add .i64 (.var 16) (.lit 1)), .ex (.var 19)])))))))
 (.ret [.var 15, .ex (.var 16), .ex (.var 17)]))
def tHeld2L1 : Tree := (.br (.cmp .lss (.var 10) (.var 2))
 (.need (.cmp .leq (.lit 0) (.var 12)) (.need (.cmp .leq (.var 12) (.var 13)) (.need (.cmp .leq (.var 13) (.len 11)) (.need (.cmp .leq (.len 11) (.var 13)) (.need (.cmp .leq (.var 12) (.lit 1000000)) (.apps (some 11) (.var 12) [(.bin .add .i64 (.var 1) (.var 10)), (.bin .add .i64 (.var 3) (.var 10))] (.back 0 10 [.ex (.bin .add .i64 (.var 10) (.lit 1)), .var 14, .ex (.bin .add .i64 (.var 12) (.lit 2)), .ex (.var 15)])))))))
 (.loop 1 14 [.ex (.lit 0), .var 11, .ex (.var 12), .ex (.var 13)] tHeld2L0))
def tHeld2 : Tree := (.ext (.lst [(.var 0), (.var 4), (.var 6), (.var 9), (.bin .add .i64 (.var 9) (.lit 1)), (.bin .add .i64 (.var 9) (.lit 2))]) (.loop 0 10 [.ex (.lit 0), .var 10, .ex (.lit 6), .ex (.lit 6)] tHeld2L1))
theorem rHeld2 : runCtr { (cxPhe cHeld2.fn 29 8 50 Tryz.prog) with hints := hsHeld2 } 20 cHeld2 [] [] = tHeld2 := by kernel_rfl

end Go.Proofs.YtdldcofddfkkbaaGreat
