/- The ways of the runs, as a program of ours printed them. -/
import Derived.Test.YtbmbiiiacajolaaTq
import Derived.Test.YtbmbiiiacajolaaSg
import Derived.KernelRfl
namespace Go.Proofs.Ytbmbiiiacajolaa
set_option linter.unusedVariables false
set_option linter.unusedSimpArgs false
set_option linter.unusedSectionVars false
open Go
set_option maxRecDepth 100000

def hsTLevels : List (Nat × Nat × List Nat) := []
@[reducible] def tTLevelsc0 : Tree := (.need (.cmp .leq (.lit 0) (.var 12)) (.need (.cmp .lss (.var 12) (.var 1)) (.need (.cmp .lss (.var 12) (.nrow 0)) (.need (.cmp .leq (.lit 0) (.var 12)) (.need (.cmp .lss (.var 12) (.nrow 0)) (.call 7 [.ex (.fld 0 (.var 12) 0), .ex (.lit 3)] (.call 12 [.var 9, .ex (.var 10), .ex (.var 11), .ex (.var 13)]
 (.br (.var 14) (.back 0 9 [.var 9, .ex (.var 10), .ex (.var 11), .ex (.bin .add .i64 (.var 12) (.lit 1))]) (.need (.cmp .leq (.lit 0) (.var 10)) (.need (.cmp .leq (.var 10) (.var 11)) (.need (.cmp .leq (.var 11) (.len 9)) (.need (.cmp .leq (.len 9) (.var 11)) (.need (.cmp .leq (.var 10) (.lit 1000000)) (.app (some 9) (.var 10) (.var 13) (.back 0 9 [.var 15, .ex (.bin .add .i64 (.var 10) (.lit 1)), .ex (.var 16), .ex (.bin .add .i64 (.var 12) (.lit 1))])))))))))))))))
@[reducible] def tTLevelsc1 : Tree := (.br (.cmp .eql (.bin .add .i64 (.lit 5) (.var 20)) (.lit 0)) (.and (.and (.and (.and (.and (.call 9 [.ex (.var 15), .ex (.var 13)]
 (.br (.var 16) (.call 1 [.var 14, .ex (.var 21), .ex (.bin .or .u64 (.bin .andNot .u64 (.bin .or .u64 (.bin .or .u64 (.lit 0) (.bin .shl .u64 (.conv .u64 (.bin .add .i64 (.nth 9 (.var 20)) (.lit 1))) (.lit 0))) (.bin .shl .u64 (.conv .u64 (.bin .add .i64 (.lit 5) (.var 20))) (.lit 16))) (.lit 9223372036854775808)) (.lit 9223372036854775808))] (.need (.cmp .leq (.lit 0) (.var 10)) (.need (.cmp .leq (.lit 0) (.var 20)) (.need (.cmp .lss (.var 20) (.var 10)) (.need (.cmp .lss (.var 20) (.len 9)) (.need (.cmp .leq (.lit 0) (.var 20)) (.need (.cmp .lss (.var 20) (.len 9)) (.need (.cmp .leq (.lit 0) (.var 20))
 (.br (.cmp .eql (.bin .and .i64 (.bin .shr .i64 (.var 4) (.var 20)) (.lit 1)) (.lit 1)) (.back 1 14 [.var 22, .ex (.nth 9 (.var 20)), .bx (.cmp .eql (.bin .and .i64 (.bin .shr .i64 (.var 4) (.var 20)) (.lit 1)) (.lit 1)), .var 17, .ex (.var 18), .ex (.var 19), .ex (.bin .add .i64 (.var 20) (.lit 1))]) (.need (.cmp .leq (.lit 0) (.var 18)) (.need (.cmp .leq (.var 18) (.var 19)) (.need (.cmp .leq (.var 19) (.len 17)) (.need (.cmp .leq (.len 17) (.var 19)) (.need (.cmp .leq (.var 18) (.lit 1000000)) (.app (some 17) (.var 18) (.nth 9 (.var 20)) (.back 1 14 [.var 22, .ex (.nth 9 (.var 20)), .bx (.cmp .eql (.bin .and .i64 (.bin .shr .i64 (.var 4) (.var 20)) (.lit 1)) (.lit 1)), .var 23, .ex (.bin .add .i64 (.var 18) (.lit 1)), .ex (.var 24), .ex (.bin .add .i64 (.var 20) (.lit 1))])))))))))))))))) (.call 1 [.var 14, .ex (.var 21), .ex (.bin .andNot .u64 (.bin .andNot .u64 (.bin .or .u64 (.bin .or .u64 (.lit 0) (.bin .shl .u64 (.conv .u64 (.bin .add .i64 (.nth 9 (.var 20)) (.lit 1))) (.lit 0))) (.bin .shl .u64 (.conv .u64 (.bin .add .i64 (.lit 5) (.var 20))) (.lit 16))) (.lit 9223372036854775808)) (.lit 9223372036854775808))] (.need (.cmp .leq (.lit 0) (.var 10)) (.need (.cmp .leq (.lit 0) (.var 20)) (.need (.cmp .lss (.var 20) (.var 10)) (.need (.cmp .lss (.var 20) (.len 9)) (.need (.cmp .leq (.lit 0) (.var 20)) (.need (.cmp .lss (.var 20) (.len 9)) (.need (.cmp .leq (.lit 0) (.var 20))
 (.br (.cmp .eql (.bin .and .i64 (.bin .shr .i64 (.var 4) (.var 20)) (.lit 1)) (.lit 1)) (.back 1 14 [.var 22, .ex (.nth 9 (.var 20)), .bx (.cmp .eql (.bin .and .i64 (.bin .shr .i64 (.var 4) (.var 20)) (.lit 1)) (.lit 1)), .var 17, .ex (.var 18), .ex (.var 19), .ex (.bin .add .i64 (.var 20) (.lit 1))]) (.need (.cmp .leq (.lit 0) (.var 18)) (.need (.cmp .leq (.var 18) (.var 19)) (.need (.cmp .leq (.var 19) (.len 17)) (.need (.cmp .leq (.len 17) (.var 19)) (.need (.cmp .leq (.var 18) (.lit 1000000)) (.app (some 17) (.var 18) (.nth 9 (.var 20)) (.back 1 14 [.var 22, .ex (.nth 9 (.var 20)), .bx (.cmp .eql (.bin .and .i64 (.bin .shr .i64 (.var 4) (.var 20)) (.lit 1)) (.lit 1)), .var 23, .ex (.bin .add .i64 (.var 18) (.lit 1)), .ex (.var 24), .ex (.bin .add .i64 (.var 20) (.lit 1))])))))))))))))))))) .ok) .ok) .ok) .ok) .ok) (.ret [.bx (.lit false)]))
@[reducible] def tTLevelsc2 : Tree := (.and (.and (.and (.and (.and (.call 9 [.ex (.var 15), .ex (.var 13)]
 (.br (.var 16) (.call 1 [.var 14, .ex (.var 21), .ex (.bin .or .u64 (.bin .andNot .u64 (.bin .or .u64 (.bin .or .u64 (.lit 0) (.bin .shl .u64 (.conv .u64 (.bin .add .i64 (.nth 9 (.var 20)) (.lit 1))) (.lit 0))) (.bin .shl .u64 (.conv .u64 (.bin .add .i64 (.lit 5) (.var 20))) (.lit 16))) (.lit 9223372036854775808)) (.lit 9223372036854775808))] (.need (.cmp .leq (.lit 0) (.var 10)) (.need (.cmp .leq (.lit 0) (.var 20)) (.need (.cmp .lss (.var 20) (.var 10)) (.need (.cmp .lss (.var 20) (.len 9)) (.need (.cmp .leq (.lit 0) (.var 20)) (.need (.cmp .lss (.var 20) (.len 9)) (.need (.cmp .leq (.lit 0) (.var 20))
 (.br (.cmp .eql (.bin .and .i64 (.bin .shr .i64 (.var 4) (.var 20)) (.lit 1)) (.lit 1)) (.back 1 14 [.var 22, .ex (.nth 9 (.var 20)), .bx (.cmp .eql (.bin .and .i64 (.bin .shr .i64 (.var 4) (.var 20)) (.lit 1)) (.lit 1)), .var 17, .ex (.var 18), .ex (.var 19), .ex (.bin .add .i64 (.var 20) (.lit 1))]) (.need (.cmp .leq (.lit 0) (.var 18)) (.need (.cmp .leq (.var 18) (.var 19)) (.need (.cmp .leq (.var 19) (.len 17)) (.need (.cmp .leq (.len 17) (.var 19)) (.need (.cmp .leq (.var 18) (.lit 1000000)) (.app (some 17) (.var 18) (.nth 9 (.var 20)) (.back 1 14 [.var 22, .ex (.nth 9 (.var 20)), .bx (.cmp .eql (.bin .and .i64 (.bin .shr .i64 (.var 4) (.var 20)) (.lit 1)) (.lit 1)), .var 23, .ex (.bin .add .i64 (.var 18) (.lit 1)), .ex (.var 24), .ex (.bin .add .i64 (.var 20) (.lit 1))])))))))))))))))) (.call 1 [.var 14, .ex (.var 21), .ex (.bin .andNot .u64 (.bin .andNot .u64 (.bin .or .u64 (.bin .or .u64 (.lit 0) (.bin .shl .u64 (.conv .u64 (.bin .add .i64 (.nth 9 (.var 20)) (.lit 1))) (.lit 0))) (.bin .shl .u64 (.conv .u64 (.bin .add .i64 (.lit 5) (.var 20))) (.lit 16))) (.lit 9223372036854775808)) (.lit 9223372036854775808))] (.need (.cmp .leq (.lit 0) (.var 10)) (.need (.cmp .leq (.lit 0) (.var 20)) (.need (.cmp .lss (.var 20) (.var 10)) (.need (.cmp .lss (.var 20) (.len 9)) (.need (.cmp .leq (.lit 0) (.var 20)) (.need (.cmp .lss (.var 20) (.len 9)) (.need (.cmp .leq (.lit 0) (.var 20))
 (.br (.cmp .eql (.bin .and .i64 (.bin .shr .i64 (.var 4) (.var 20)) (.lit 1)) (.lit 1)) (.back 1 14 [.var 22, .ex (.nth 9 (.var 20)), .bx (.cmp .eql (.bin .and .i64 (.bin .shr .i64 (.var 4) (.var 20)) (.lit 1)) (.lit 1)), .var 17, .ex (.var 18), .ex (.var 19), .ex (.bin .add .i64 (.var 20) (.lit 1))]) (.need (.cmp .leq (.lit 0) (.var 18)) (.need (.cmp .leq (.var 18) (.var 19)) (.need (.cmp .leq (.var 19) (.len 17)) (.need (.cmp .leq (.len 17) (.var 19)) (.need (.cmp .leq (.var 18) (.lit 1000000)) (.app (some 17) (.var 18) (.nth 9 (.var 20)) (.back 1 14 [.var 22, .ex (.nth 9 (.var 20)), .bx (.cmp .eql (.bin .and .i64 (.bin .shr .i64 (.var 4) (.var 20)) (.lit 1)) (.lit 1)), .var 23, .ex (.bin .add .i64 (.var 18) (.lit 1)), .ex (.var 24), .ex (.bin .add .i64 (.var 20) (.lit 1))])))))))))))))))))) .ok) .ok) .ok) .ok) .ok)
@[reducible] def tTLevelsc3 : Tree := (.and (.and (.and (.and (.and (.call 9 [.ex (.var 15), .ex (.var 13)]
 (.br (.var 16) (.call 1 [.var 14, .ex (.var 21), .ex (.lit 9223372036854775808)] (.need (.cmp .leq (.lit 0) (.var 10)) (.back 1 14 [.var 22, .ex (.var 15), .bx (.var 16), .var 17, .ex (.var 18), .ex (.var 19), .ex (.bin .add .i64 (.var 20) (.lit 1))]))) (.call 1 [.var 14, .ex (.var 21), .ex (.lit 0)] (.need (.cmp .leq (.lit 0) (.var 10)) (.back 1 14 [.var 22, .ex (.var 15), .bx (.var 16), .var 17, .ex (.var 18), .ex (.var 19), .ex (.bin .add .i64 (.var 20) (.lit 1))]))))) .ok) .ok) .ok) .ok) .ok)
@[reducible] def tTLevelsc4 : Tree := (.br (.cmp .eql (.var 13) (.lit 1)) (.callm 10 [.var 14, .ex (.lit 0)] (.need (.cmp .leq (.lit 0) (.var 23))
 (.br (.cmp .eql (.var 23) (.lit 0)) (.callm 11 [.var 21] (.need (.cmp .leq (.lit 0) (.var 27))
 (.br (.cmp .eql (.var 27) (.lit 0))
 (.br (.var 5) (.callm 10 [.var 25, .ex (.var 13)] (.call 6 [.var 30, .var 9, .ex (.var 31), .ex (.var 32), .ex (.var 10), .ex (.var 11)]
 (.br (.var 33) (.ret [.bx (.lit true)]) (.ret [.bx (.lit false)])))) (.ret [.bx (.lit false)])) (.ret [.bx (.lit false)])))) (.ret [.bx (.lit false)]))))
 (.br (.var 5) (.callm 10 [.var 14, .ex (.var 13)] (.call 6 [.var 22, .var 9, .ex (.var 23), .ex (.var 24), .ex (.var 10), .ex (.var 11)]
 (.br (.var 25) (.callm 11 [.var 21] (.call 6 [.var 27, .var 17, .ex (.var 28), .ex (.var 29), .ex (.var 18), .ex (.var 19)] (.ret [.bx (.var 30)]))) (.ret [.bx (.lit false)])))) (.ret [.bx (.lit false)])))
@[reducible] def tTLevelsc5 : Tree := (.need (.cmp .leq (.lit 0) (.var 10))
 (.br (.cmp .leq (.var 20) (.var 10)) (.need (.cmp .leq (.lit 0) (.var 10))
 (.br (.cmp .lss (.var 20) (.var 10)) (.need (.cmp .leq (.lit 0) (.var 20)) (.need (.cmp .lss (.var 20) (.var 10)) (.need (.cmp .lss (.var 20) (.len 9)) (.need (.cmp .leq (.lit 0) (.var 20)) (.need (.cmp .lss (.var 20) (.len 9))
 (.br (.cmp .lss (.nth 9 (.var 20)) (.lit (-1))) (.ret [.bx (.lit false)])
 (.br (.cmp .gtr (.nth 9 (.var 20)) (.lit 65534)) (.ret [.bx (.lit false)])
 (.br (.cmp .lss (.bin .add .i64 (.lit 5) (.var 20)) (.lit 0)) (.ret [.bx (.lit false)])
 (.br (.cmp .gtr (.bin .add .i64 (.lit 5) (.var 20)) (.lit 4294967295)) (.ret [.bx (.lit false)])
 (.br (.cmp .eql (.nth 9 (.var 20)) (.lit (-1))) tTLevelsc1 tTLevelsc2)))))))))) tTLevelsc3)) tTLevelsc4))
def tTLevelsL0 : Tree := (.need (.cmp .leq (.lit 0) (.var 10))
 (.br (.cmp .leq (.var 20) (.var 10)) (.need (.cmp .leq (.lit 0) (.var 10))
 (.br (.cmp .lss (.var 20) (.var 10)) (.need (.cmp .leq (.lit 0) (.var 20)) (.need (.cmp .lss (.var 20) (.var 10)) (.need (.cmp .lss (.var 20) (.len 9)) (.need (.cmp .leq (.lit 0) (.var 20)) (.need (.cmp .lss (.var 20) (.len 9))
 (.br (.cmp .lss (.nth 9 (.var 20)) (.lit (-1))) (.ret [.bx (.lit false)])
 (.br (.cmp .gtr (.nth 9 (.var 20)) (.lit 65534)) (.ret [.bx (.lit false)])
 (.br (.cmp .lss (.bin .add .i64 (.lit 5) (.var 20)) (.lit 0)) (.ret [.bx (.lit false)])
 (.br (.cmp .gtr (.bin .add .i64 (.lit 5) (.var 20)) (.lit 4294967295)) (.ret [.bx (.lit false)])
 (.br (.cmp .eql (.nth 9 (.var 20)) (.lit (-1))) tTLevelsc1 tTLevelsc2)))))))))) tTLevelsc3)) tTLevelsc4))
def tTLevelsL1 : Tree := (.need (.cmp .leq (.lit 0) (.var 1))
 (.br (.cmp .lss (.var 12) (.var 1))
 (.br (.cmp .lss (.var 12) (.lit 20)) tTLevelsc0 (.call 7 [.ex (.var 3), .ex (.lit 2)] (.ext (.lst []) (.loop 1 14 [.var 8, .ex (.lit (-1)), .bx (.lit false), .var 14, .ex (.lit 0), .ex (.lit 0), .ex (.lit 0)] tTLevelsL0)))) (.call 7 [.ex (.var 3), .ex (.lit 2)] (.ext (.lst []) (.loop 1 14 [.var 8, .ex (.lit (-1)), .bx (.lit false), .var 14, .ex (.lit 0), .ex (.lit 0), .ex (.lit 0)] tTLevelsL0)))))
def tTLevels : Tree := (.call 13 [] (.call 3 [.ex (.lit 34)]
 (.br (.cmp .eql (.var 7) (.lit 0))
 (.br (.isnil 6) (.ret [.bx (.lit false)]) (.call 8 [.var 6] (.ext (.lst []) (.loop 0 9 [.var 9, .ex (.lit 0), .ex (.lit 0), .ex (.lit 0)] tTLevelsL1)))) (.ret [.bx (.lit false)]))))
def shTLevels : Sh := (.one (.one (.one (.oner (.one (.one (.one (.one (.two (.two .stop (.one (.one (.one (.one (.two (.one (.two (.one (.one (.one (.one (.one (.oner (.oner (.oner (.oner (.two .stop .stop)))))))))) .stop)) .stop)))))) (.one (.one (.one .stop))))))))))))
def hdTLevels : List Tree := [(.call 13 [] .ok),
 (.call 3 [.ex (.lit 34)] .ok),
 (.br (.cmp .eql (.var 7) (.lit 0)) .ok (.ret [.bx (.lit false)])),
 (.br (.isnil 6) (.ret [.bx (.lit false)]) .ok),
 (.ret [.bx (.lit false)]),
 (.call 8 [.var 6] .ok),
 (.ext (.lst []) .ok),
 (.loop 0 9 [.var 9, .ex (.lit 0), .ex (.lit 0), .ex (.lit 0)] .ok),
 (.need (.cmp .leq (.lit 0) (.var 1)) .ok),
 (.br (.cmp .lss (.var 12) (.var 1)) .ok .ok),
 (.br (.cmp .lss (.var 12) (.lit 20)) .ok .ok),
 (.call 7 [.ex (.var 3), .ex (.lit 2)] .ok),
 (.ext (.lst []) .ok),
 (.loop 1 14 [.var 8, .ex (.lit (-1)), .bx (.lit false), .var 14, .ex (.lit 0), .ex (.lit 0), .ex (.lit 0)] .ok),
 (.need (.cmp .leq (.lit 0) (.var 10)) .ok),
 (.br (.cmp .leq (.var 20) (.var 10)) .ok .ok),
 (.need (.cmp .leq (.lit 0) (.var 10)) .ok),
 (.br (.cmp .lss (.var 20) (.var 10)) .ok .ok),
 (.need (.cmp .leq (.lit 0) (.var 20)) .ok),
 (.need (.cmp .lss (.var 20) (.var 10)) .ok),
 (.need (.cmp .lss (.var 20) (.len 9)) .ok),
 (.need (.cmp .leq (.lit 0) (.var 20)) .ok),
 (.need (.cmp .lss (.var 20) (.len 9)) .ok),
 (.br (.cmp .lss (.nth 9 (.var 20)) (.lit (-1))) (.ret [.bx (.lit false)]) .ok),
 (.ret [.bx (.lit false)]),
 (.br (.cmp .gtr (.nth 9 (.var 20)) (.lit 65534)) (.ret [.bx (.lit false)]) .ok),
 (.ret [.bx (.lit false)]),
 (.br (.cmp .lss (.bin .add .i64 (.lit 5) (.var 20)) (.lit 0)) (.ret [.bx (.lit false)]) .ok),
 (.ret [.bx (.lit false)]),
 (.br (.cmp .gtr (.bin .add .i64 (.lit 5) (.var 20)) (.lit 4294967295)) (.ret [.bx (.lit false)]) .ok),
 (.ret [.bx (.lit false)]),
 (.br (.cmp .eql (.nth 9 (.var 20)) (.lit (-1))) .ok .ok),
 (.call 7 [.ex (.var 3), .ex (.lit 2)] .ok),
 (.ext (.lst []) .ok),
 (.loop 1 14 [.var 8, .ex (.lit (-1)), .bx (.lit false), .var 14, .ex (.lit 0), .ex (.lit 0), .ex (.lit 0)] .ok)]
theorem qTLevelsH : Tree.heads shTLevels tTLevels = hdTLevels := by kernel_rfl
theorem qTLevelsP0 : Tree.at_ [false, false, false, true, false, false, false, false, false, false] tTLevels = tTLevelsc0 := by kernel_rfl
theorem qTLevelsP1 : Tree.at_ [false, false, false, true, false, false, false, false, false, true, false, false, false, false, false, false, false, false, false, false, false, false, true, true, true, true, false] tTLevels = tTLevelsc1 := by kernel_rfl
theorem qTLevelsP2 : Tree.at_ [false, false, false, true, false, false, false, false, false, true, false, false, false, false, false, false, false, false, false, false, false, false, true, true, true, true, true] tTLevels = tTLevelsc2 := by kernel_rfl
theorem qTLevelsP3 : Tree.at_ [false, false, false, true, false, false, false, false, false, true, false, false, false, false, false, false, true] tTLevels = tTLevelsc3 := by kernel_rfl
theorem qTLevelsP4 : Tree.at_ [false, false, false, true, false, false, false, false, false, true, false, false, false, false, true] tTLevels = tTLevelsc4 := by kernel_rfl
theorem qTLevelsP5 : Tree.at_ [false, false, false, true, false, false, false, false, true, false, false, false] tTLevels = tTLevelsc5 := by kernel_rfl
end Go.Proofs.Ytbmbiiiacajolaa
