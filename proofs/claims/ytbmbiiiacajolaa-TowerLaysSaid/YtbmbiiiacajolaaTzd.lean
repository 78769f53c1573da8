/- The ways of the runs, as a program of ours printed them. -/
import Derived.Test.YtbmbiiiacajolaaTh
import Derived.Test.YtbmbiiiacajolaaSg
import Derived.KernelRfl
namespace Go.Proofs.Ytbmbiiiacajolaa
set_option linter.unusedVariables false
set_option linter.unusedSimpArgs false
set_option linter.unusedSectionVars false
open Go
set_option maxRecDepth 100000

def hsTLays : List (Nat × Nat × List Nat) := []
@[reducible] def tTLaysc0 : Tree := (.br (.cmp .eql (.var 26) (.lit 4)) (.back 0 25 [.var 25, .ex (.var 26), .ex (.var 27), .ex (.var 28), .ex (.bin .add .i64 (.var 29) (.lit 1))])
 (.br (.cmp .eql (.lit 0) (.var 26)) (.and (.and (.and (.call 1 [.var 25, .ex (.lit 16), .ex (.conv .u64 (.fld 0 (.lit 0) 0))] (.back 0 25 [.var 31, .ex (.bin .add .i64 (.var 26) (.lit 1)), .ex (.var 27), .ex (.var 28), .ex (.bin .add .i64 (.var 29) (.lit 1))])) .ok) .ok) .ok)
 (.br (.cmp .eql (.lit 1) (.var 26)) (.and (.and (.and (.call 1 [.var 25, .ex (.lit 17), .ex (.conv .u64 (.var 19))] (.back 0 25 [.var 31, .ex (.bin .add .i64 (.var 26) (.lit 1)), .ex (.var 27), .ex (.var 28), .ex (.bin .add .i64 (.var 29) (.lit 1))])) .ok) .ok) .ok)
 (.br (.cmp .eql (.lit 2) (.var 26)) (.and (.and (.and (.call 1 [.var 25, .ex (.lit 18), .ex (.conv .u64 (.bin .add .i64 (.lit 1) (.var 20)))] (.back 0 25 [.var 31, .ex (.bin .add .i64 (.var 26) (.lit 1)), .ex (.var 27), .ex (.var 28), .ex (.bin .add .i64 (.var 29) (.lit 1))])) .ok) .ok) .ok)
 (.br (.cmp .eql (.lit 3) (.var 26)) (.and (.and (.and (.call 1 [.var 25, .ex (.lit 19), .ex (.lit 2)] (.back 0 25 [.var 31, .ex (.bin .add .i64 (.var 26) (.lit 1)), .ex (.var 27), .ex (.var 28), .ex (.bin .add .i64 (.var 29) (.lit 1))])) .ok) .ok) .ok) (.back 0 25 [.var 25, .ex (.bin .add .i64 (.var 26) (.lit 1)), .ex (.var 27), .ex (.var 28), .ex (.bin .add .i64 (.var 29) (.lit 1))]))))))
@[reducible] def tTLaysc1 : Tree := (.br (.cmp .eql (.var 27) (.lit 4)) (.back 0 25 [.var 25, .ex (.var 26), .ex (.var 27), .ex (.var 28), .ex (.bin .add .i64 (.var 29) (.lit 1))])
 (.br (.cmp .eql (.lit 0) (.var 27)) (.and (.and (.and (.call 1 [.var 25, .ex (.lit 22), .ex (.conv .u64 (.fld 0 (.lit 1) 0))] (.back 0 25 [.var 31, .ex (.var 26), .ex (.bin .add .i64 (.var 27) (.lit 1)), .ex (.var 28), .ex (.bin .add .i64 (.var 29) (.lit 1))])) .ok) .ok) .ok)
 (.br (.cmp .eql (.lit 1) (.var 27)) (.and (.and (.and (.call 1 [.var 25, .ex (.lit 23), .ex (.conv .u64 (.var 21))] (.back 0 25 [.var 31, .ex (.var 26), .ex (.bin .add .i64 (.var 27) (.lit 1)), .ex (.var 28), .ex (.bin .add .i64 (.var 29) (.lit 1))])) .ok) .ok) .ok)
 (.br (.cmp .eql (.lit 2) (.var 27)) (.and (.and (.and (.call 1 [.var 25, .ex (.lit 24), .ex (.conv .u64 (.bin .add .i64 (.lit 1) (.var 22)))] (.back 0 25 [.var 31, .ex (.var 26), .ex (.bin .add .i64 (.var 27) (.lit 1)), .ex (.var 28), .ex (.bin .add .i64 (.var 29) (.lit 1))])) .ok) .ok) .ok)
 (.br (.cmp .eql (.lit 3) (.var 27)) (.and (.and (.and (.call 1 [.var 25, .ex (.lit 25), .ex (.lit 2)] (.back 0 25 [.var 31, .ex (.var 26), .ex (.bin .add .i64 (.var 27) (.lit 1)), .ex (.var 28), .ex (.bin .add .i64 (.var 29) (.lit 1))])) .ok) .ok) .ok) (.back 0 25 [.var 25, .ex (.var 26), .ex (.bin .add .i64 (.var 27) (.lit 1)), .ex (.var 28), .ex (.bin .add .i64 (.var 29) (.lit 1))]))))))
@[reducible] def tTLaysc2 : Tree := (.br (.cmp .eql (.var 30) (.lit 2))
 (.br (.cmp .eql (.var 28) (.lit 4)) (.back 0 25 [.var 25, .ex (.var 26), .ex (.var 27), .ex (.var 28), .ex (.bin .add .i64 (.var 29) (.lit 1))])
 (.br (.cmp .eql (.lit 0) (.var 28)) (.and (.and (.and (.call 1 [.var 25, .ex (.lit 28), .ex (.conv .u64 (.fld 0 (.lit 2) 0))] (.back 0 25 [.var 31, .ex (.var 26), .ex (.var 27), .ex (.bin .add .i64 (.var 28) (.lit 1)), .ex (.bin .add .i64 (.var 29) (.lit 1))])) .ok) .ok) .ok)
 (.br (.cmp .eql (.lit 1) (.var 28)) (.and (.and (.and (.call 1 [.var 25, .ex (.lit 29), .ex (.conv .u64 (.var 23))] (.back 0 25 [.var 31, .ex (.var 26), .ex (.var 27), .ex (.bin .add .i64 (.var 28) (.lit 1)), .ex (.bin .add .i64 (.var 29) (.lit 1))])) .ok) .ok) .ok)
 (.br (.cmp .eql (.lit 2) (.var 28)) (.and (.and (.and (.call 1 [.var 25, .ex (.lit 30), .ex (.conv .u64 (.bin .add .i64 (.lit 1) (.var 24)))] (.back 0 25 [.var 31, .ex (.var 26), .ex (.var 27), .ex (.bin .add .i64 (.var 28) (.lit 1)), .ex (.bin .add .i64 (.var 29) (.lit 1))])) .ok) .ok) .ok)
 (.br (.cmp .eql (.lit 3) (.var 28)) (.and (.and (.and (.call 1 [.var 25, .ex (.lit 31), .ex (.lit 2)] (.back 0 25 [.var 31, .ex (.var 26), .ex (.var 27), .ex (.bin .add .i64 (.var 28) (.lit 1)), .ex (.bin .add .i64 (.var 29) (.lit 1))])) .ok) .ok) .ok) (.back 0 25 [.var 25, .ex (.var 26), .ex (.var 27), .ex (.bin .add .i64 (.var 28) (.lit 1)), .ex (.bin .add .i64 (.var 29) (.lit 1))])))))) (.need (.lit false) .ok))
@[reducible] def tTLaysc3 : Tree := (.br (.cmp .eql (.var 31) (.lit 4)) (.back 1 30 [.var 30, .ex (.var 31), .ex (.bin .add .i64 (.var 32) (.lit 1))])
 (.br (.cmp .eql (.lit 0) (.var 31)) (.and (.and (.and (.call 1 [.var 30, .ex (.lit 16), .ex (.conv .u64 (.fld 0 (.lit 0) 0))] (.back 1 30 [.var 33, .ex (.bin .add .i64 (.var 31) (.lit 1)), .ex (.bin .add .i64 (.var 32) (.lit 1))])) .ok) .ok) .ok)
 (.br (.cmp .eql (.lit 1) (.var 31)) (.and (.and (.and (.call 1 [.var 30, .ex (.lit 17), .ex (.conv .u64 (.var 19))] (.back 1 30 [.var 33, .ex (.bin .add .i64 (.var 31) (.lit 1)), .ex (.bin .add .i64 (.var 32) (.lit 1))])) .ok) .ok) .ok)
 (.br (.cmp .eql (.lit 2) (.var 31)) (.and (.and (.and (.call 1 [.var 30, .ex (.lit 18), .ex (.conv .u64 (.bin .add .i64 (.lit 1) (.var 20)))] (.back 1 30 [.var 33, .ex (.bin .add .i64 (.var 31) (.lit 1)), .ex (.bin .add .i64 (.var 32) (.lit 1))])) .ok) .ok) .ok)
 (.br (.cmp .eql (.lit 3) (.var 31)) (.and (.and (.and (.call 1 [.var 30, .ex (.lit 19), .ex (.lit 2)] (.back 1 30 [.var 33, .ex (.bin .add .i64 (.var 31) (.lit 1)), .ex (.bin .add .i64 (.var 32) (.lit 1))])) .ok) .ok) .ok) (.back 1 30 [.var 30, .ex (.bin .add .i64 (.var 31) (.lit 1)), .ex (.bin .add .i64 (.var 32) (.lit 1))]))))))
@[reducible] def tTLaysc4 : Tree := (.br (.cmp .eql (.var 45) (.lit 4)) (.back 2 44 [.var 44, .ex (.var 45), .ex (.bin .add .i64 (.var 46) (.lit 1))])
 (.br (.cmp .eql (.lit 0) (.var 45)) (.and (.and (.and (.call 1 [.var 44, .ex (.lit 22), .ex (.conv .u64 (.fld 0 (.lit 1) 0))] (.back 2 44 [.var 47, .ex (.bin .add .i64 (.var 45) (.lit 1)), .ex (.bin .add .i64 (.var 46) (.lit 1))])) .ok) .ok) .ok)
 (.br (.cmp .eql (.lit 1) (.var 45)) (.and (.and (.and (.call 1 [.var 44, .ex (.lit 23), .ex (.conv .u64 (.var 21))] (.back 2 44 [.var 47, .ex (.bin .add .i64 (.var 45) (.lit 1)), .ex (.bin .add .i64 (.var 46) (.lit 1))])) .ok) .ok) .ok)
 (.br (.cmp .eql (.lit 2) (.var 45)) (.and (.and (.and (.call 1 [.var 44, .ex (.lit 24), .ex (.conv .u64 (.bin .add .i64 (.lit 1) (.var 22)))] (.back 2 44 [.var 47, .ex (.bin .add .i64 (.var 45) (.lit 1)), .ex (.bin .add .i64 (.var 46) (.lit 1))])) .ok) .ok) .ok)
 (.br (.cmp .eql (.lit 3) (.var 45)) (.and (.and (.and (.call 1 [.var 44, .ex (.lit 25), .ex (.lit 2)] (.back 2 44 [.var 47, .ex (.bin .add .i64 (.var 45) (.lit 1)), .ex (.bin .add .i64 (.var 46) (.lit 1))])) .ok) .ok) .ok) (.back 2 44 [.var 44, .ex (.bin .add .i64 (.var 45) (.lit 1)), .ex (.bin .add .i64 (.var 46) (.lit 1))]))))))
@[reducible] def tTLaysc5 : Tree := (.br (.cmp .eql (.var 59) (.lit 4)) (.back 3 58 [.var 58, .ex (.var 59), .ex (.bin .add .i64 (.var 60) (.lit 1))])
 (.br (.cmp .eql (.lit 0) (.var 59)) (.and (.and (.and (.call 1 [.var 58, .ex (.lit 28), .ex (.conv .u64 (.fld 0 (.lit 2) 0))] (.back 3 58 [.var 61, .ex (.bin .add .i64 (.var 59) (.lit 1)), .ex (.bin .add .i64 (.var 60) (.lit 1))])) .ok) .ok) .ok)
 (.br (.cmp .eql (.lit 1) (.var 59)) (.and (.and (.and (.call 1 [.var 58, .ex (.lit 29), .ex (.conv .u64 (.var 23))] (.back 3 58 [.var 61, .ex (.bin .add .i64 (.var 59) (.lit 1)), .ex (.bin .add .i64 (.var 60) (.lit 1))])) .ok) .ok) .ok)
 (.br (.cmp .eql (.lit 2) (.var 59)) (.and (.and (.and (.call 1 [.var 58, .ex (.lit 30), .ex (.conv .u64 (.bin .add .i64 (.lit 1) (.var 24)))] (.back 3 58 [.var 61, .ex (.bin .add .i64 (.var 59) (.lit 1)), .ex (.bin .add .i64 (.var 60) (.lit 1))])) .ok) .ok) .ok)
 (.br (.cmp .eql (.lit 3) (.var 59)) (.and (.and (.and (.call 1 [.var 58, .ex (.lit 31), .ex (.lit 2)] (.back 3 58 [.var 61, .ex (.bin .add .i64 (.var 59) (.lit 1)), .ex (.bin .add .i64 (.var 60) (.lit 1))])) .ok) .ok) .ok) (.back 3 58 [.var 58, .ex (.bin .add .i64 (.var 59) (.lit 1)), .ex (.bin .add .i64 (.var 60) (.lit 1))]))))))
@[reducible] def tTLaysc6 : Tree := (.and
 (.br (.cmp .eql (.var 59) (.lit 4)) (.need (.cmp .lss (.lit 2) (.var 1)) (.need (.cmp .lss (.lit 2) (.nrow 0)) (.need (.cmp .lss (.lit 2) (.nrow 0))
 (.br (.cmp .eql (.var 62) (.conv .u64 (.fld 0 (.lit 2) 0))) (.need (.cmp .lss (.lit 2) (.var 4)) (.need (.cmp .lss (.lit 2) (.nrow 3)) (.need (.cmp .lss (.lit 2) (.nrow 3)) (.and (.call 8 [.ex (.fld 3 (.lit 2) 0), .ex (.lit 64)]
 (.br (.cmp .eql (.var 63) (.conv .u64 (.var 68))) (.need (.cmp .lss (.lit 2) (.var 7)) (.need (.cmp .lss (.lit 2) (.nrow 6)) (.need (.cmp .lss (.lit 2) (.nrow 6)) (.and (.call 8 [.ex (.fld 6 (.lit 2) 0), .ex (.lit 2)]
 (.br (.cmp .eql (.var 64) (.conv .u64 (.bin .add .i64 (.lit 1) (.var 69))))
 (.br (.cmp .eql (.var 65) (.lit 2)) (.and (.and (.ext (.lst [(.lit 0), (.lit 0)]) (.call 7 [.var 66, .var 70, .ex (.lit 2), .ex (.var 67), .ex (.lit 2), .ex (.lit 2)]
 (.br (.var 71)
 (.br (.var 12) (.need (.cmp .leq (.lit 16) (.var 18)) (.and (.call 6 [.var 61] (.need (.cmp .leq (.lit 16) (.var 74)) (.and (.call 7 [.var 73, .var 17, .ex (.lit 16), .ex (.var 74), .ex (.lit 16), .ex (.var 18)]
 (.br (.var 75) (.and (.call 5 [.var 72] (.and (.call 3 [.ex (.lit 34)]
 (.br (.cmp .eql (.var 79) (.lit 0))
 (.br (.isnil 78) (.ret [.bx (.cmp .eql (.var 77) (.lit 12))]) (.call 9 [.var 78] (.call 5 [.var 80] (.ret [.bx (.cmp .eql (.var 77) (.bin .add .i64 (.lit 12) (.var 82)))])))) (.ret [.bx (.cmp .eql (.var 77) (.lit 12))]))) .ok)) .ok) (.ret [.bx (.lit false)]))) .ok))) .ok)) (.ret [.bx (.lit false)])) (.ret [.bx (.lit false)])))) .ok) .ok) (.ret [.bx (.lit false)])) (.ret [.bx (.lit false)]))) .ok)))) (.ret [.bx (.lit false)]))) .ok)))) (.ret [.bx (.lit false)]))))) (.ret [.bx (.lit false)])) .ok)
def tTLaysL0 : Tree := (.br (.cmp .lss (.var 60) (.lit 4)) tTLaysc5 (.callm 12 [.var 58] tTLaysc6))
def tTLaysL1 : Tree := (.br (.cmp .lss (.var 46) (.lit 4)) tTLaysc4 (.callm 11 [.var 44] (.and
 (.br (.cmp .eql (.var 45) (.lit 4)) (.need (.cmp .lss (.lit 1) (.var 1)) (.need (.cmp .lss (.lit 1) (.nrow 0)) (.need (.cmp .lss (.lit 1) (.nrow 0))
 (.br (.cmp .eql (.var 48) (.conv .u64 (.fld 0 (.lit 1) 0))) (.need (.cmp .lss (.lit 1) (.var 4)) (.need (.cmp .lss (.lit 1) (.nrow 3)) (.need (.cmp .lss (.lit 1) (.nrow 3)) (.and (.call 8 [.ex (.fld 3 (.lit 1) 0), .ex (.lit 64)]
 (.br (.cmp .eql (.var 49) (.conv .u64 (.var 54))) (.need (.cmp .lss (.lit 1) (.var 7)) (.need (.cmp .lss (.lit 1) (.nrow 6)) (.need (.cmp .lss (.lit 1) (.nrow 6)) (.and (.call 8 [.ex (.fld 6 (.lit 1) 0), .ex (.lit 2)]
 (.br (.cmp .eql (.var 50) (.conv .u64 (.bin .add .i64 (.lit 1) (.var 55))))
 (.br (.cmp .eql (.var 51) (.lit 2)) (.and (.and (.ext (.lst [(.lit 0), (.lit 0)]) (.call 7 [.var 52, .var 56, .ex (.lit 2), .ex (.var 53), .ex (.lit 2), .ex (.lit 2)]
 (.br (.var 57) (.loop 3 58 [.var 47, .ex (.var 28), .ex (.lit 0)] tTLaysL0) (.ret [.bx (.lit false)])))) .ok) .ok) (.ret [.bx (.lit false)])) (.ret [.bx (.lit false)]))) .ok)))) (.ret [.bx (.lit false)]))) .ok)))) (.ret [.bx (.lit false)]))))) (.ret [.bx (.lit false)])) .ok)))
def tTLaysL2 : Tree := (.br (.cmp .lss (.var 32) (.lit 4)) tTLaysc3 (.callm 10 [.var 30] (.and
 (.br (.cmp .eql (.var 31) (.lit 4)) (.need (.cmp .lss (.lit 0) (.var 1)) (.need (.cmp .lss (.lit 0) (.nrow 0)) (.need (.cmp .lss (.lit 0) (.nrow 0))
 (.br (.cmp .eql (.var 34) (.conv .u64 (.fld 0 (.lit 0) 0))) (.need (.cmp .lss (.lit 0) (.var 4)) (.need (.cmp .lss (.lit 0) (.nrow 3)) (.need (.cmp .lss (.lit 0) (.nrow 3)) (.and (.call 8 [.ex (.fld 3 (.lit 0) 0), .ex (.lit 64)]
 (.br (.cmp .eql (.var 35) (.conv .u64 (.var 40))) (.need (.cmp .lss (.lit 0) (.var 7)) (.need (.cmp .lss (.lit 0) (.nrow 6)) (.need (.cmp .lss (.lit 0) (.nrow 6)) (.and (.call 8 [.ex (.fld 6 (.lit 0) 0), .ex (.lit 2)]
 (.br (.cmp .eql (.var 36) (.conv .u64 (.bin .add .i64 (.lit 1) (.var 41))))
 (.br (.cmp .eql (.var 37) (.lit 2)) (.and (.and (.ext (.lst [(.lit 0), (.lit 0)]) (.call 7 [.var 38, .var 42, .ex (.lit 2), .ex (.var 39), .ex (.lit 2), .ex (.lit 2)]
 (.br (.var 43) (.loop 2 44 [.var 33, .ex (.var 27), .ex (.lit 0)] tTLaysL1) (.ret [.bx (.lit false)])))) .ok) .ok) (.ret [.bx (.lit false)])) (.ret [.bx (.lit false)]))) .ok)))) (.ret [.bx (.lit false)]))) .ok)))) (.ret [.bx (.lit false)]))))) (.ret [.bx (.lit false)])) .ok)))
def tTLaysL3 : Tree := (.need (.cmp .leq (.lit 0) (.var 10))
 (.br (.cmp .lss (.var 29) (.var 10)) (.need (.cmp .leq (.lit 0) (.var 29)) (.need (.cmp .lss (.var 29) (.var 10)) (.need (.cmp .lss (.var 29) (.nrow 9)) (.need (.cmp .leq (.lit 0) (.var 29)) (.need (.cmp .lss (.var 29) (.nrow 9)) (.call 8 [.ex (.fld 9 (.var 29) 0), .ex (.lit 3)]
 (.br (.cmp .eql (.var 30) (.lit 0)) tTLaysc0
 (.br (.cmp .eql (.var 30) (.lit 1)) tTLaysc1 tTLaysc2)))))))) (.loop 1 30 [.var 25, .ex (.var 26), .ex (.lit 0)] tTLaysL2)))
def tTLays : Tree := (.call 16 [] (.call 3 [.ex (.lit 34)] (.need (.cmp .leq (.lit 0) (.var 1))
 (.br (.cmp .lss (.var 1) (.lit 3)) (.ret [.bx (.var 12)]) (.need (.cmp .leq (.lit 0) (.var 4))
 (.br (.cmp .lss (.var 4) (.lit 3)) (.ret [.bx (.var 12)]) (.need (.cmp .leq (.lit 0) (.var 7))
 (.br (.cmp .lss (.var 7) (.lit 3)) (.ret [.bx (.var 12)]) (.need (.cmp .leq (.lit 0) (.var 10))
 (.br (.cmp .gtr (.var 10) (.lit 60)) (.ret [.bx (.var 12)])
 (.br (.cmp .eql (.var 14) (.lit 0))
 (.br (.isnil 13) (.ret [.bx (.lit false)]) (.call 9 [.var 13] (.call 6 [.var 15] (.need (.cmp .lss (.lit 0) (.var 1)) (.need (.cmp .lss (.lit 0) (.nrow 0)) (.need (.cmp .lss (.lit 0) (.nrow 0)) (.need (.cmp .lss (.lit 0) (.var 4)) (.need (.cmp .lss (.lit 0) (.nrow 3)) (.need (.cmp .lss (.lit 0) (.nrow 3)) (.need (.cmp .lss (.lit 0) (.var 7)) (.need (.cmp .lss (.lit 0) (.nrow 6)) (.need (.cmp .lss (.lit 0) (.nrow 6)) (.and (.call 8 [.ex (.fld 3 (.lit 0) 0), .ex (.lit 64)] (.and (.call 8 [.ex (.fld 6 (.lit 0) 0), .ex (.lit 2)] (.and (.call 13 [.ex (.var 19), .ex (.bin .add .i64 (.lit 1) (.var 20))] (.and (.and (.and (.and (.and (.need (.cmp .lss (.lit 1) (.var 1)) (.need (.cmp .lss (.lit 1) (.nrow 0)) (.need (.cmp .lss (.lit 1) (.nrow 0)) (.need (.cmp .lss (.lit 1) (.var 4)) (.need (.cmp .lss (.lit 1) (.nrow 3)) (.need (.cmp .lss (.lit 1) (.nrow 3)) (.need (.cmp .lss (.lit 1) (.var 7)) (.need (.cmp .lss (.lit 1) (.nrow 6)) (.need (.cmp .lss (.lit 1) (.nrow 6)) (.and (.call 8 [.ex (.fld 3 (.lit 1) 0), .ex (.lit 64)] (.and (.call 8 [.ex (.fld 6 (.lit 1) 0), .ex (.lit 2)] (.and (.call 14 [.ex (.var 21), .ex (.bin .add .i64 (.lit 1) (.var 22))] (.and (.and (.and (.and (.and (.need (.cmp .lss (.lit 2) (.var 1)) (.need (.cmp .lss (.lit 2) (.nrow 0)) (.need (.cmp .lss (.lit 2) (.nrow 0)) (.need (.cmp .lss (.lit 2) (.var 4)) (.need (.cmp .lss (.lit 2) (.nrow 3)) (.need (.cmp .lss (.lit 2) (.nrow 3)) (.need (.cmp .lss (.lit 2) (.var 7)) (.need (.cmp .lss (.lit 2) (.nrow 6)) (.need (.cmp .lss (.lit 2) (.nrow 6)) (.and (.call 8 [.ex (.fld 3 (.lit 2) 0), .ex (.lit 64)] (.and (.call 8 [.ex (.fld 6 (.lit 2) 0), .ex (.lit 2)] (.and (.call 15 [.ex (.var 23), .ex (.bin .add .i64 (.lit 1) (.var 24))] (.and (.and (.and (.and (.and (.loop 0 25 [.var 16, .ex (.lit 0), .ex (.lit 0), .ex (.lit 0), .ex (.lit 0)] tTLaysL3) .ok) .ok) .ok) .ok) .ok)) .ok)) .ok)) .ok)))))))))) .ok) .ok) .ok) .ok) .ok)) .ok)) .ok)) .ok)))))))))) .ok) .ok) .ok) .ok) .ok)) .ok)) .ok)) .ok))))))))))))) (.ret [.bx (.lit false)]))))))))))))
def shTLays : Sh := (.one (.one (.one (.oner (.one (.oner (.one (.oner (.one (.oner (.one (.oner (.one (.one (.one (.one (.one (.one (.one (.one (.one (.one (.one (.one (.one (.one (.one (.one (.one (.one (.one (.one (.one (.one (.one (.one (.one (.one (.one (.one (.one (.one (.one (.one (.one (.one (.one (.one (.one (.one (.one (.one (.one (.one (.one (.one (.one (.one (.one (.one (.one (.one (.one (.one (.one (.one (.one (.one (.one (.one (.one (.one (.one (.one (.one (.one (.two (.one (.one (.one (.one (.one (.one (.two .stop (.two .stop .stop)))))))) (.one (.two .stop (.one (.one (.one (.one (.one (.one (.one (.one (.one (.one (.one (.one (.one (.one (.one (.one (.one (.one (.one (.one (.one (.one (.one (.one (.one (.one (.two .stop (.one (.one (.one (.one (.one (.one (.one (.one (.one (.one (.one (.one (.one (.one (.one (.one (.one (.one (.one (.one (.one (.one (.one (.one (.one (.one (.two .stop (.one .stop))))))))))))))))))))))))))))))))))))))))))))))))))))))))))))))))))))))))))))))))))))))))))))))))))))))))))))))))))))))))))))))))))))))
def hdTLays : List Tree := [(.call 16 [] .ok),
 (.call 3 [.ex (.lit 34)] .ok),
 (.need (.cmp .leq (.lit 0) (.var 1)) .ok),
 (.br (.cmp .lss (.var 1) (.lit 3)) (.ret [.bx (.var 12)]) .ok),
 (.ret [.bx (.var 12)]),
 (.need (.cmp .leq (.lit 0) (.var 4)) .ok),
 (.br (.cmp .lss (.var 4) (.lit 3)) (.ret [.bx (.var 12)]) .ok),
 (.ret [.bx (.var 12)]),
 (.need (.cmp .leq (.lit 0) (.var 7)) .ok),
 (.br (.cmp .lss (.var 7) (.lit 3)) (.ret [.bx (.var 12)]) .ok),
 (.ret [.bx (.var 12)]),
 (.need (.cmp .leq (.lit 0) (.var 10)) .ok),
 (.br (.cmp .gtr (.var 10) (.lit 60)) (.ret [.bx (.var 12)]) .ok),
 (.ret [.bx (.var 12)]),
 (.br (.cmp .eql (.var 14) (.lit 0)) .ok (.ret [.bx (.lit false)])),
 (.br (.isnil 13) (.ret [.bx (.lit false)]) .ok),
 (.ret [.bx (.lit false)]),
 (.call 9 [.var 13] .ok),
 (.call 6 [.var 15] .ok),
 (.need (.cmp .lss (.lit 0) (.var 1)) .ok),
 (.need (.cmp .lss (.lit 0) (.nrow 0)) .ok),
 (.need (.cmp .lss (.lit 0) (.nrow 0)) .ok),
 (.need (.cmp .lss (.lit 0) (.var 4)) .ok),
 (.need (.cmp .lss (.lit 0) (.nrow 3)) .ok),
 (.need (.cmp .lss (.lit 0) (.nrow 3)) .ok),
 (.need (.cmp .lss (.lit 0) (.var 7)) .ok),
 (.need (.cmp .lss (.lit 0) (.nrow 6)) .ok),
 (.need (.cmp .lss (.lit 0) (.nrow 6)) .ok),
 (.and .ok .ok),
 (.call 8 [.ex (.fld 3 (.lit 0) 0), .ex (.lit 64)] .ok),
 (.and .ok .ok),
 (.call 8 [.ex (.fld 6 (.lit 0) 0), .ex (.lit 2)] .ok),
 (.and .ok .ok),
 (.call 13 [.ex (.var 19), .ex (.bin .add .i64 (.lit 1) (.var 20))] .ok),
 (.and .ok .ok),
 (.and .ok .ok),
 (.and .ok .ok),
 (.and .ok .ok),
 (.and .ok .ok),
 (.need (.cmp .lss (.lit 1) (.var 1)) .ok),
 (.need (.cmp .lss (.lit 1) (.nrow 0)) .ok),
 (.need (.cmp .lss (.lit 1) (.nrow 0)) .ok),
 (.need (.cmp .lss (.lit 1) (.var 4)) .ok),
 (.need (.cmp .lss (.lit 1) (.nrow 3)) .ok),
 (.need (.cmp .lss (.lit 1) (.nrow 3)) .ok),
 (.need (.cmp .lss (.lit 1) (.var 7)) .ok),
 (.need (.cmp .lss (.lit 1) (.nrow 6)) .ok),
 (.need (.cmp .lss (.lit 1) (.nrow 6)) .ok),
 (.and .ok .ok),
 (.call 8 [.ex (.fld 3 (.lit 1) 0), .ex (.lit 64)] .ok),
 (.and .ok .ok),
 (.call 8 [.ex (.fld 6 (.lit 1) 0), .ex (.lit 2)] .ok),
 (.and .ok .ok),
 (.call 14 [.ex (.var 21), .ex (.bin .add .i64 (.lit 1) (.var 22))] .ok),
 (.and .ok .ok),
 (.and .ok .ok),
 (.and .ok .ok),
 (.and .ok .ok),
 (.and .ok .ok),
 (.need (.cmp .lss (.lit 2) (.var 1)) .ok),
 (.need (.cmp .lss (.lit 2) (.nrow 0)) .ok),
 (.need (.cmp .lss (.lit 2) (.nrow 0)) .ok),
 (.need (.cmp .lss (.lit 2) (.var 4)) .ok),
 (.need (.cmp .lss (.lit 2) (.nrow 3)) .ok),
 (.need (.cmp .lss (.lit 2) (.nrow 3)) .ok),
 (.need (.cmp .lss (.lit 2) (.var 7)) .ok),
 (.need (.cmp .lss (.lit 2) (.nrow 6)) .ok),
 (.need (.cmp .lss (.lit 2) (.nrow 6)) .ok),
 (.and .ok .ok),
 (.call 8 [.ex (.fld 3 (.lit 2) 0), .ex (.lit 64)] .ok),
 (.and .ok .ok),
 (.call 8 [.ex (.fld 6 (.lit 2) 0), .ex (.lit 2)] .ok),
 (.and .ok .ok),
 (.call 15 [.ex (.var 23), .ex (.bin .add .i64 (.lit 1) (.var 24))] .ok),
 (.and .ok .ok),
 (.and .ok .ok),
 (.and .ok .ok),
 (.and .ok .ok),
 (.and .ok .ok),
 (.loop 0 25 [.var 16, .ex (.lit 0), .ex (.lit 0), .ex (.lit 0), .ex (.lit 0)] .ok),
 (.need (.cmp .leq (.lit 0) (.var 10)) .ok),
 (.br (.cmp .lss (.var 29) (.var 10)) .ok .ok),
 (.need (.cmp .leq (.lit 0) (.var 29)) .ok),
 (.need (.cmp .lss (.var 29) (.var 10)) .ok),
 (.need (.cmp .lss (.var 29) (.nrow 9)) .ok),
 (.need (.cmp .leq (.lit 0) (.var 29)) .ok),
 (.need (.cmp .lss (.var 29) (.nrow 9)) .ok),
 (.call 8 [.ex (.fld 9 (.var 29) 0), .ex (.lit 3)] .ok),
 (.br (.cmp .eql (.var 30) (.lit 0)) .ok .ok),
 (.br (.cmp .eql (.var 30) (.lit 1)) .ok .ok),
 (.loop 1 30 [.var 25, .ex (.var 26), .ex (.lit 0)] .ok),
 (.br (.cmp .lss (.var 32) (.lit 4)) .ok .ok),
 (.callm 10 [.var 30] .ok),
 (.and .ok .ok),
 (.br (.cmp .eql (.var 31) (.lit 4)) .ok (.ret [.bx (.lit false)])),
 (.need (.cmp .lss (.lit 0) (.var 1)) .ok),
 (.need (.cmp .lss (.lit 0) (.nrow 0)) .ok),
 (.need (.cmp .lss (.lit 0) (.nrow 0)) .ok),
 (.br (.cmp .eql (.var 34) (.conv .u64 (.fld 0 (.lit 0) 0))) .ok (.ret [.bx (.lit false)])),
 (.need (.cmp .lss (.lit 0) (.var 4)) .ok),
 (.need (.cmp .lss (.lit 0) (.nrow 3)) .ok),
 (.need (.cmp .lss (.lit 0) (.nrow 3)) .ok),
 (.and .ok .ok),
 (.call 8 [.ex (.fld 3 (.lit 0) 0), .ex (.lit 64)] .ok),
 (.br (.cmp .eql (.var 35) (.conv .u64 (.var 40))) .ok (.ret [.bx (.lit false)])),
 (.need (.cmp .lss (.lit 0) (.var 7)) .ok),
 (.need (.cmp .lss (.lit 0) (.nrow 6)) .ok),
 (.need (.cmp .lss (.lit 0) (.nrow 6)) .ok),
 (.and .ok .ok),
 (.call 8 [.ex (.fld 6 (.lit 0) 0), .ex (.lit 2)] .ok),
 (.br (.cmp .eql (.var 36) (.conv .u64 (.bin .add .i64 (.lit 1) (.var 41)))) .ok (.ret [.bx (.lit false)])),
 (.br (.cmp .eql (.var 37) (.lit 2)) .ok (.ret [.bx (.lit false)])),
 (.and .ok .ok),
 (.and .ok .ok),
 (.ext (.lst [(.lit 0), (.lit 0)]) .ok),
 (.call 7 [.var 38, .var 42, .ex (.lit 2), .ex (.var 39), .ex (.lit 2), .ex (.lit 2)] .ok),
 (.br (.var 43) .ok (.ret [.bx (.lit false)])),
 (.loop 2 44 [.var 33, .ex (.var 27), .ex (.lit 0)] .ok),
 (.br (.cmp .lss (.var 46) (.lit 4)) .ok .ok),
 (.callm 11 [.var 44] .ok),
 (.and .ok .ok),
 (.br (.cmp .eql (.var 45) (.lit 4)) .ok (.ret [.bx (.lit false)])),
 (.need (.cmp .lss (.lit 1) (.var 1)) .ok),
 (.need (.cmp .lss (.lit 1) (.nrow 0)) .ok),
 (.need (.cmp .lss (.lit 1) (.nrow 0)) .ok),
 (.br (.cmp .eql (.var 48) (.conv .u64 (.fld 0 (.lit 1) 0))) .ok (.ret [.bx (.lit false)])),
 (.need (.cmp .lss (.lit 1) (.var 4)) .ok),
 (.need (.cmp .lss (.lit 1) (.nrow 3)) .ok),
 (.need (.cmp .lss (.lit 1) (.nrow 3)) .ok),
 (.and .ok .ok),
 (.call 8 [.ex (.fld 3 (.lit 1) 0), .ex (.lit 64)] .ok),
 (.br (.cmp .eql (.var 49) (.conv .u64 (.var 54))) .ok (.ret [.bx (.lit false)])),
 (.need (.cmp .lss (.lit 1) (.var 7)) .ok),
 (.need (.cmp .lss (.lit 1) (.nrow 6)) .ok),
 (.need (.cmp .lss (.lit 1) (.nrow 6)) .ok),
 (.and .ok .ok),
 (.call 8 [.ex (.fld 6 (.lit 1) 0), .ex (.lit 2)] .ok),
 (.br (.cmp .eql (.var 50) (.conv .u64 (.bin .add .i64 (.lit 1) (.var 55)))) .ok (.ret [.bx (.lit false)])),
 (.br (.cmp .eql (.var 51) (.lit 2)) .ok (.ret [.bx (.lit false)])),
 (.and .ok .ok),
 (.and .ok .ok),
 (.ext (.lst [(.lit 0), (.lit 0)]) .ok),
 (.call 7 [.var 52, .var 56, .ex (.lit 2), .ex (.var 53), .ex (.lit 2), .ex (.lit 2)] .ok),
 (.br (.var 57) .ok (.ret [.bx (.lit false)])),
 (.loop 3 58 [.var 47, .ex (.var 28), .ex (.lit 0)] .ok),
 (.br (.cmp .lss (.var 60) (.lit 4)) .ok .ok),
 (.callm 12 [.var 58] .ok)]
theorem qTLaysH : Tree.heads shTLays tTLays = hdTLays := by kernel_rfl
theorem qTLaysP0 : Tree.at_ [false, false, false, true, false, true, false, true, false, true, false, true, false, false, false, false, false, false, false, false, false, false, false, false, false, false, false, false, false, false, false, false, false, false, false, false, false, false, false, false, false, false, false, false, false, false, false, false, false, false, false, false, false, false, false, false, false, false, false, false, false, false, false, false, false, false, false, false, false, false, false, false, false, false, false, false, false, false, false, false, false, false, false, false] tTLays = tTLaysc0 := by kernel_rfl
theorem qTLaysP1 : Tree.at_ [false, false, false, true, false, true, false, true, false, true, false, true, false, false, false, false, false, false, false, false, false, false, false, false, false, false, false, false, false, false, false, false, false, false, false, false, false, false, false, false, false, false, false, false, false, false, false, false, false, false, false, false, false, false, false, false, false, false, false, false, false, false, false, false, false, false, false, false, false, false, false, false, false, false, false, false, false, false, false, false, false, false, false, true, false] tTLays = tTLaysc1 := by kernel_rfl
theorem qTLaysP2 : Tree.at_ [false, false, false, true, false, true, false, true, false, true, false, true, false, false, false, false, false, false, false, false, false, false, false, false, false, false, false, false, false, false, false, false, false, false, false, false, false, false, false, false, false, false, false, false, false, false, false, false, false, false, false, false, false, false, false, false, false, false, false, false, false, false, false, false, false, false, false, false, false, false, false, false, false, false, false, false, false, false, false, false, false, false, false, true, true] tTLays = tTLaysc2 := by kernel_rfl
theorem qTLaysP3 : Tree.at_ [false, false, false, true, false, true, false, true, false, true, false, true, false, false, false, false, false, false, false, false, false, false, false, false, false, false, false, false, false, false, false, false, false, false, false, false, false, false, false, false, false, false, false, false, false, false, false, false, false, false, false, false, false, false, false, false, false, false, false, false, false, false, false, false, false, false, false, false, false, false, false, false, false, false, false, false, true, false, false] tTLays = tTLaysc3 := by kernel_rfl
theorem qTLaysP4 : Tree.at_ [false, false, false, true, false, true, false, true, false, true, false, true, false, false, false, false, false, false, false, false, false, false, false, false, false, false, false, false, false, false, false, false, false, false, false, false, false, false, false, false, false, false, false, false, false, false, false, false, false, false, false, false, false, false, false, false, false, false, false, false, false, false, false, false, false, false, false, false, false, false, false, false, false, false, false, false, true, false, true, false, false, false, false, false, false, false, false, false, false, false, false, false, false, false, false, false, false, false, false, false, false, false, false, false, false, false] tTLays = tTLaysc4 := by kernel_rfl
theorem qTLaysP5 : Tree.at_ [false, false, false, true, false, true, false, true, false, true, false, true, false, false, false, false, false, false, false, false, false, false, false, false, false, false, false, false, false, false, false, false, false, false, false, false, false, false, false, false, false, false, false, false, false, false, false, false, false, false, false, false, false, false, false, false, false, false, false, false, false, false, false, false, false, false, false, false, false, false, false, false, false, false, false, false, true, false, true, false, false, false, false, false, false, false, false, false, false, false, false, false, false, false, false, false, false, false, false, false, false, false, false, false, false, true, false, false, false, false, false, false, false, false, false, false, false, false, false, false, false, false, false, false, false, false, false, false, false, false, false, false, false] tTLays = tTLaysc5 := by kernel_rfl
theorem qTLaysP6 : Tree.at_ [false, false, false, true, false, true, false, true, false, true, false, true, false, false, false, false, false, false, false, false, false, false, false, false, false, false, false, false, false, false, false, false, false, false, false, false, false, false, false, false, false, false, false, false, false, false, false, false, false, false, false, false, false, false, false, false, false, false, false, false, false, false, false, false, false, false, false, false, false, false, false, false, false, false, false, false, true, false, true, false, false, false, false, false, false, false, false, false, false, false, false, false, false, false, false, false, false, false, false, false, false, false, false, false, false, true, false, false, false, false, false, false, false, false, false, false, false, false, false, false, false, false, false, false, false, false, false, false, false, false, false, false, true, false] tTLays = tTLaysc6 := by kernel_rfl
end Go.Proofs.Ytbmbiiiacajolaa
