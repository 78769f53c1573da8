/- The ways of the runs, as a program of ours printed them. -/
import Derived.Test.YtdabdbbgaekmdaaKa
import Derived.KernelRfl
namespace Go.Proofs.Ytdabdbbgaekmdaa
set_option linter.unusedVariables false
set_option linter.unusedSimpArgs false
set_option linter.unusedSectionVars false
open Go
set_option maxRecDepth 100000

def hsGetTop : List (Nat × Nat × List Nat) := [(146, 2, [0])]
def tGetTop : Tree := (.and (.and (.and (.ret [.ex (.bin .sub .i64 (.conv .i64 (.bin .and .u64 (.bin .shr .u64 (.var 0) (.lit 0)) (.lit 65535))) (.lit 1)), .ex (.conv .i64 (.bin .and .u64 (.bin .shr .u64 (.var 0) (.lit 16)) (.lit 281474976710655)))]) .ok) .ok) .ok)
theorem rGetTop : runCtr { (cx Try.prog []) with hints := hsGetTop } 20 cGetTop [] [] = tGetTop := by kernel_rfl

def hsPutTop : List (Nat × Nat × List Nat) := []
def tPutTop : Tree := (.br (.cmp .lss (.var 0) (.lit (-1)))
 (.ret [.ex (.lit 0), .ex (.lit 3)])
 (.br (.cmp .gtr (.var 0) (.lit 65534))
 (.ret [.ex (.lit 0), .ex (.lit 3)])
 (.br (.cmp .lss (.var 1) (.lit 0))
 (.ret [.ex (.lit 0), .ex (.lit 3)])
 (.br (.cmp .gtr (.var 1) (.lit 281474976710655))
 (.ret [.ex (.lit 0), .ex (.lit 3)])
 (.and (.and (.and (.and (.ret [.ex (.bin .or .u64 (.bin .or .u64 (.lit 0) (.bin .shl .u64 (.conv .u64 (.bin .add .i64 (.var 0) (.lit 1))) (.lit 0))) (.bin .shl .u64 (.conv .u64 (.var 1)) (.lit 16))), .ex (.lit 0)]) .ok) .ok) .ok) .ok)))))
theorem rPutTop : runCtr { (cx Try.prog []) with hints := hsPutTop } 20 cPutTop [] [] = tPutTop := by kernel_rfl

def hsRead : List (Nat × Nat × List Nat) := []
def tRead : Tree := (.call 0 [.ex (.var 3)] (.br (.cmp .geq (.var 4) (.var 2))
 (.ret [.ex (.lit (-1))])
 (.ret [.ex (.var 4)])))
theorem rRead : runCtr { (cx Try.prog ctsKR) with hints := hsRead } 20 cRead [] [] = tRead := by kernel_rfl

def hsSFits : List (Nat × Nat × List Nat) := []
def tSFits : Tree := (.br (.cmp .lss (.var 3) (.lit 1))
 (.ret [.ex (.lit 3)])
 (.br (.cmp .gtr (.var 3) (.lit 4096))
 (.ret [.ex (.lit 3)])
 (.br (.cmp .geq (.var 2) (.lit 1))
 (.br (.cmp .leq (.var 2) (.lit 4096))
 (.br (.cmp .lss (.var 0) (.lit 0))
 (.ret [.ex (.lit 2)])
 (.br (.cmp .geq (.var 0) (.var 3))
 (.ret [.ex (.lit 2)])
 (.br (.cmp .lss (.var 1) (.lit 0))
 (.ret [.ex (.lit 2)])
 (.br (.cmp .gtr (.var 1) (.bin .sub .i64 (.var 3) (.var 2)))
 (.ret [.ex (.lit 2)])
 (.br (.cmp .geq (.var 0) (.var 1))
 (.br (.cmp .lss (.var 0) (.bin .add .i64 (.var 1) (.var 2)))
 (.ret [.ex (.lit 2)])
 (.ret [.ex (.lit 0)]))
 (.ret [.ex (.lit 0)]))))))
 (.ret [.ex (.lit 2)]))
 (.ret [.ex (.lit 2)]))))
theorem rSFits : runCtr { (cx Try.prog []) with hints := hsSFits } 20 cSFits [] [] = tSFits := by kernel_rfl

def hsSFill : List (Nat × Nat × List Nat) := []
def tSFillL0 : Tree := (.br (.cmp .lss (.var 8) (.var 3))
 (.br (.cmp .eql (.bin .add .i64 (.var 8) (.lit 1)) (.var 3))
 (.and (.call 10 [.ex (.lit (-1)), .ex (.lit 0)] (.and (.call 1 [.var 7, .ex (.bin .add .i64 (.var 2) (.var 8)), .ex (.var 9)] (.back 0 7 [.var 11, .ex (.bin .add .i64 (.var 8) (.lit 1))])) .ok)) .ok)
 (.and (.call 10 [.ex (.bin .add .i64 (.var 8) (.lit 1)), .ex (.lit 0)] (.and (.call 1 [.var 7, .ex (.bin .add .i64 (.var 2) (.var 8)), .ex (.var 9)] (.back 0 7 [.var 11, .ex (.bin .add .i64 (.var 8) (.lit 1))])) .ok)) .ok))
 (.ret [.var 7]))
def tSFill : Tree := (.br (.cmp .geq (.var 3) (.lit 1))
 (.br (.cmp .leq (.var 3) (.lit 4096))
 (.and (.call 10 [.ex (.lit 0), .ex (.lit 0)] (.and (.call 1 [.var 0, .ex (.var 1), .ex (.var 4)] (.loop 0 7 [.var 6, .ex (.lit 0)] tSFillL0)) .ok)) .ok)
 (.ret [.var 0]))
 (.ret [.var 0]))
theorem rSFill : runCtr { (cxKL Try.prog lSFill) with hints := hsSFill } 20 cSFill [] [] = tSFill := by kernel_rfl

def hsSChain : List (Nat × Nat × List Nat) := []
def tSChainL0 : Tree := (.br (.cmp .geq (.var 9) (.lit 0))
 (.br (.cmp .lss (.var 10) (.var 3))
 (.need (.cmp .leq (.lit 0) (.var 10)) (.need (.cmp .leq (.var 10) (.var 12)) (.need (.cmp .leq (.var 12) (.len 11)) (.need (.cmp .leq (.len 11) (.var 12)) (.need (.cmp .leq (.var 10) (.lit 1000000)) (.app (some 11) (.var 10) (.var 9) (.and (.br (.cmp .lss (.bin .add .i64 (.var 2) (.var 9)) (.lit 0))
 (.and (.call 11 [.ex (.var 1), .ex (.var 2), .ex (.var 3), .ex (.lit 0)] (.back 0 9 [.ex (.var 15), .ex (.bin .add .i64 (.var 10) (.lit 1)), .var 13, .ex (.var 14)])) .ok)
 (.need (.cmp .leq (.lit 0) (.var 6)) (.br (.cmp .geq (.bin .add .i64 (.var 2) (.var 9)) (.var 6))
 (.and (.call 11 [.ex (.var 1), .ex (.var 2), .ex (.var 3), .ex (.lit 0)] (.back 0 9 [.ex (.var 15), .ex (.bin .add .i64 (.var 10) (.lit 1)), .var 13, .ex (.var 14)])) .ok)
 (.need (.cmp .leq (.lit 0) (.bin .add .i64 (.var 2) (.var 9))) (.need (.cmp .lss (.bin .add .i64 (.var 2) (.var 9)) (.var 6)) (.need (.cmp .lss (.bin .add .i64 (.var 2) (.var 9)) (.len 5)) (.need (.cmp .leq (.lit 0) (.bin .add .i64 (.var 2) (.var 9))) (.need (.cmp .lss (.bin .add .i64 (.var 2) (.var 9)) (.len 5)) (.and (.call 11 [.ex (.var 1), .ex (.var 2), .ex (.var 3), .ex (.nth 5 (.bin .add .i64 (.var 2) (.var 9)))] (.back 0 9 [.ex (.var 15), .ex (.bin .add .i64 (.var 10) (.lit 1)), .var 13, .ex (.var 14)])) .ok))))))))) .ok)))))))
 (.ret [.var 4, .var 11, .ex (.var 10), .ex (.var 12)]))
 (.ret [.var 4, .var 11, .ex (.var 10), .ex (.var 12)]))
def tSChain : Tree := (.and (.call 6 [.var 0] (.and (.rng (.and (.br (.cmp .lss (.var 1) (.lit 0))
 (.and (.call 11 [.ex (.var 1), .ex (.var 2), .ex (.var 3), .ex (.lit 0)] (.ext (.lst []) (.loop 0 9 [.ex (.var 8), .ex (.lit 0), .var 9, .ex (.lit 0)] tSChainL0))) .ok)
 (.need (.cmp .leq (.lit 0) (.var 6)) (.br (.cmp .geq (.var 1) (.var 6))
 (.and (.call 11 [.ex (.var 1), .ex (.var 2), .ex (.var 3), .ex (.lit 0)] (.ext (.lst []) (.loop 0 9 [.ex (.var 8), .ex (.lit 0), .var 9, .ex (.lit 0)] tSChainL0))) .ok)
 (.need (.cmp .leq (.lit 0) (.var 1)) (.need (.cmp .lss (.var 1) (.var 6)) (.need (.cmp .lss (.var 1) (.len 5)) (.need (.cmp .leq (.lit 0) (.var 1)) (.need (.cmp .lss (.var 1) (.len 5)) (.and (.call 11 [.ex (.var 1), .ex (.var 2), .ex (.var 3), .ex (.nth 5 (.var 1))] (.ext (.lst []) (.loop 0 9 [.ex (.var 8), .ex (.lit 0), .var 9, .ex (.lit 0)] tSChainL0))) .ok))))))))) .ok)) .ok)) .ok)
theorem rSChain : runCtr { (cxKL Try.prog lSChain) with hints := hsSChain } 20 cSChain [] [] = tSChain := by kernel_rfl

def hsNewPo : List (Nat × Nat × List Nat) := []
def tNewPo : Tree := (.ext (.mk 5 [.ex (.var 0), .ex (.var 1), .ex (.var 2), .ex (.lit 0), .ex (.lit 0), .ex (.lit 0), .ex (.lit 0)]) (.ret [.var 3]))
theorem rNewPo : runCtr { (cx Try.prog []) with hints := hsNewPo } 20 cNewPo [] [(0,[5,6,7,8,9])] = tNewPo := by kernel_rfl

def hsPoStep : List (Nat × Nat × List Nat) := [(121, 0, [0])]
def tPoStep : Tree := (.and (.opn 0 5 (.call 0 [.var 1, .ex (.var 2)] (.and (.call 11 [.ex (.var 2), .ex (.var 3), .ex (.var 4), .ex (.var 10)] (.br (.cmp .lss (.var 11) (.lit 0))
 (.ext (.mk 9 [.ex (.var 2), .ex (.var 3), .ex (.var 4), .ex (.var 10), .ex (.var 11), .ex (.var 7)]) (.ret [.var 12, .var 9, .bx (.lit true)]))
 (.ext (.mk 6 [.ex (.var 2), .ex (.var 3), .ex (.var 4), .ex (.var 10), .ex (.var 11), .ex (.var 7), .ex (.var 8)]) (.ret [.var 12, .var 9, .bx (.lit false)])))) .ok)))
 (.and (.opn 0 6 (.and (.and (.and (.and (.call 0 [.var 1, .ex (.bin .add .i64 (.var 3) (.var 6))] (.and (.call 11 [.ex (.var 2), .ex (.var 3), .ex (.var 4), .ex (.var 10)] (.and (.ext (.mk 7 [.ex (.var 2), .ex (.var 3), .ex (.var 4), .ex (.var 5), .ex (.var 6), .ex (.var 11), .ex (.var 8)]) (.ret [.var 12, .var 9, .bx (.lit false)])) .ok)) .ok)) .ok) .ok)
 (.and (.and (.and (.call 0 [.var 1, .ex (.bin .add .i64 (.var 3) (.var 6))] (.and (.call 11 [.ex (.var 2), .ex (.var 3), .ex (.var 4), .ex (.var 10)] (.and (.ext (.mk 7 [.ex (.var 2), .ex (.var 3), .ex (.var 4), .ex (.var 5), .ex (.var 6), .ex (.var 11), .ex (.var 8)]) (.ret [.var 12, .var 9, .bx (.lit false)])) .ok)) .ok)) .ok) .ok) .ok))
 (.and (.and (.and (.and (.call 0 [.var 1, .ex (.bin .add .i64 (.var 3) (.var 6))] (.and (.call 11 [.ex (.var 2), .ex (.var 3), .ex (.var 4), .ex (.var 10)] (.and (.ext (.mk 7 [.ex (.var 2), .ex (.var 3), .ex (.var 4), .ex (.var 5), .ex (.var 6), .ex (.var 11), .ex (.var 8)]) (.ret [.var 12, .var 9, .bx (.lit false)])) .ok)) .ok)) .ok) .ok)
 (.and (.and (.and (.call 0 [.var 1, .ex (.bin .add .i64 (.var 3) (.var 6))] (.and (.call 11 [.ex (.var 2), .ex (.var 3), .ex (.var 4), .ex (.var 10)] (.and (.ext (.mk 7 [.ex (.var 2), .ex (.var 3), .ex (.var 4), .ex (.var 5), .ex (.var 6), .ex (.var 11), .ex (.var 8)]) (.ret [.var 12, .var 9, .bx (.lit false)])) .ok)) .ok)) .ok)
 (.and (.call 0 [.var 1, .ex (.bin .add .i64 (.var 3) (.var 6))] (.and (.and (.call 11 [.ex (.var 2), .ex (.var 3), .ex (.var 4), .ex (.var 10)] (.and (.ext (.mk 7 [.ex (.var 2), .ex (.var 3), .ex (.var 4), .ex (.var 5), .ex (.var 6), .ex (.var 11), .ex (.var 8)]) (.ret [.var 12, .var 9, .bx (.lit false)])) .ok)) .ok) .ok)) .ok)) .ok))
 (.and (.and (.and (.and (.call 0 [.var 1, .ex (.bin .add .i64 (.var 3) (.var 6))] (.and (.call 11 [.ex (.var 2), .ex (.var 3), .ex (.var 4), .ex (.var 10)] (.and (.ext (.mk 7 [.ex (.var 2), .ex (.var 3), .ex (.var 4), .ex (.var 5), .ex (.var 6), .ex (.var 11), .ex (.var 8)]) (.ret [.var 12, .var 9, .bx (.lit false)])) .ok)) .ok)) .ok) .ok)
 (.and (.and (.and (.call 0 [.var 1, .ex (.bin .add .i64 (.var 3) (.var 6))] (.and (.call 11 [.ex (.var 2), .ex (.var 3), .ex (.var 4), .ex (.var 10)] (.and (.ext (.mk 7 [.ex (.var 2), .ex (.var 3), .ex (.var 4), .ex (.var 5), .ex (.var 6), .ex (.var 11), .ex (.var 8)]) (.ret [.var 12, .var 9, .bx (.lit false)])) .ok)) .ok)) .ok)
 (.and (.call 0 [.var 1, .ex (.bin .add .i64 (.var 3) (.var 6))] (.and (.and (.call 11 [.ex (.var 2), .ex (.var 3), .ex (.var 4), .ex (.var 10)] (.and (.ext (.mk 7 [.ex (.var 2), .ex (.var 3), .ex (.var 4), .ex (.var 5), .ex (.var 6), .ex (.var 11), .ex (.var 8)]) (.ret [.var 12, .var 9, .bx (.lit false)])) .ok)) .ok) .ok)) .ok)) .ok)) .ok))))
 (.and (.opn 0 7 (.and (.call 9 [.ex (.var 5)] (.call 10 [.ex (.var 7), .ex (.bin .and .i64 (.bin .add .i64 (.var 10) (.lit 1)) (.lit 281474976710655))] (.and (.call 2 [.var 1, .ex (.var 2), .ex (.var 5), .ex (.var 11)] (.br (.var 14)
 (.ext (.mk 8 [.ex (.var 2), .ex (.var 3), .ex (.var 4), .ex (.var 5), .ex (.var 6), .ex (.var 7)]) (.ret [.var 15, .var 13, .bx (.lit true)]))
 (.ext (.mk 5 [.ex (.var 2), .ex (.var 3), .ex (.var 4), .ex (.var 5), .ex (.var 6), .ex (.var 7), .ex (.var 8)]) (.ret [.var 15, .var 13, .bx (.lit false)])))) .ok))) .ok))
 (.and (.opn 0 8 (.ext (.mk 8 [.ex (.var 2), .ex (.var 3), .ex (.var 4), .ex (.var 5), .ex (.var 6), .ex (.var 7)]) (.ret [.var 8, .var 1, .bx (.lit true)])))
 (.and (.opn 0 9 (.ext (.mk 9 [.ex (.var 2), .ex (.var 3), .ex (.var 4), .ex (.var 5), .ex (.var 6), .ex (.var 7)]) (.ret [.var 8, .var 1, .bx (.lit true)])))
 (.nomore 0 [5, 6, 7, 8, 9]))))))
theorem rPoStep : runCtr { (cx Try.prog ctsKT) with hints := hsPoStep } 20 cPoStep [(0,[5,6,7,8,9])] [(0,[5,6,7,8,9])] = tPoStep := by kernel_rfl

def hsPoIndex : List (Nat × Nat × List Nat) := []
def tPoIndex : Tree := (.and (.opn 0 5 (.ext (.mk 5 [.ex (.var 1), .ex (.var 2), .ex (.var 3), .ex (.var 4), .ex (.var 5), .ex (.var 6), .ex (.var 7)]) (.ret [.var 8, .ex (.lit 0), .ex (.lit 14)])))
 (.and (.opn 0 6 (.ext (.mk 6 [.ex (.var 1), .ex (.var 2), .ex (.var 3), .ex (.var 4), .ex (.var 5), .ex (.var 6), .ex (.var 7)]) (.ret [.var 8, .ex (.lit 0), .ex (.lit 14)])))
 (.and (.opn 0 7 (.ext (.mk 7 [.ex (.var 1), .ex (.var 2), .ex (.var 3), .ex (.var 4), .ex (.var 5), .ex (.var 6), .ex (.var 7)]) (.ret [.var 8, .ex (.lit 0), .ex (.lit 14)])))
 (.and (.opn 0 8 (.ext (.mk 8 [.ex (.var 1), .ex (.var 2), .ex (.var 3), .ex (.var 4), .ex (.var 5), .ex (.var 6)]) (.ret [.var 7, .ex (.var 5), .ex (.lit 0)])))
 (.and (.opn 0 9 (.ext (.mk 9 [.ex (.var 1), .ex (.var 2), .ex (.var 3), .ex (.var 4), .ex (.var 5), .ex (.var 6)]) (.ret [.var 7, .ex (.lit 0), .ex (.lit 15)])))
 (.nomore 0 [5, 6, 7, 8, 9]))))))
theorem rPoIndex : runCtr { (cx Try.prog []) with hints := hsPoIndex } 20 cPoIndex [(0,[5,6,7,8,9])] [(0,[5,6,7,8,9])] = tPoIndex := by kernel_rfl

def hsNewPu : List (Nat × Nat × List Nat) := []
def tNewPu : Tree := (.br (.cmp .lss (.var 3) (.lit 0))
 (.ext (.mk 16 [.ex (.var 0), .ex (.var 1), .ex (.var 2), .ex (.lit 0), .ex (.var 3), .ex (.lit 0), .ex (.lit 3)]) (.ret [.var 4]))
 (.br (.cmp .geq (.var 3) (.var 2))
 (.ext (.mk 16 [.ex (.var 0), .ex (.var 1), .ex (.var 2), .ex (.lit 0), .ex (.var 3), .ex (.lit 0), .ex (.lit 3)]) (.ret [.var 4]))
 (.ext (.mk 13 [.ex (.var 0), .ex (.var 1), .ex (.var 2), .ex (.lit 0), .ex (.var 3), .ex (.lit 0), .ex (.lit 0)]) (.ret [.var 4]))))
theorem rNewPu : runCtr { (cx Try.prog []) with hints := hsNewPu } 20 cNewPu [] [(0,[13,14,15,16])] = tNewPu := by kernel_rfl

def hsPuStep : List (Nat × Nat × List Nat) := []
def tPuStep : Tree := (.and (.opn 0 13 (.call 0 [.var 1, .ex (.var 2)] (.and (.call 11 [.ex (.var 2), .ex (.var 3), .ex (.var 4), .ex (.var 10)] (.ext (.mk 14 [.ex (.var 2), .ex (.var 3), .ex (.var 4), .ex (.var 10), .ex (.var 6), .ex (.var 11), .ex (.var 8)]) (.ret [.var 12, .var 9, .bx (.lit false)]))) .ok)))
 (.and (.opn 0 14 (.and (.call 10 [.ex (.var 7), .ex (.lit 0)] (.and (.call 1 [.var 1, .ex (.bin .add .i64 (.var 3) (.var 6)), .ex (.var 9)] (.ext (.mk 15 [.ex (.var 2), .ex (.var 3), .ex (.var 4), .ex (.var 5), .ex (.var 6), .ex (.var 7), .ex (.var 8)]) (.ret [.var 12, .var 11, .bx (.lit false)]))) .ok)) .ok))
 (.and (.opn 0 15 (.and (.call 9 [.ex (.var 5)] (.call 10 [.ex (.var 6), .ex (.bin .and .i64 (.bin .add .i64 (.var 10) (.lit 1)) (.lit 281474976710655))] (.and (.call 2 [.var 1, .ex (.var 2), .ex (.var 5), .ex (.var 11)] (.br (.var 14)
 (.ext (.mk 16 [.ex (.var 2), .ex (.var 3), .ex (.var 4), .ex (.var 5), .ex (.var 6), .ex (.var 7), .ex (.lit 0)]) (.ret [.var 15, .var 13, .bx (.lit true)]))
 (.ext (.mk 13 [.ex (.var 2), .ex (.var 3), .ex (.var 4), .ex (.var 5), .ex (.var 6), .ex (.var 7), .ex (.var 8)]) (.ret [.var 15, .var 13, .bx (.lit false)])))) .ok))) .ok))
 (.and (.opn 0 16 (.ext (.mk 16 [.ex (.var 2), .ex (.var 3), .ex (.var 4), .ex (.var 5), .ex (.var 6), .ex (.var 7), .ex (.var 8)]) (.ret [.var 9, .var 1, .bx (.lit true)])))
 (.nomore 0 [13, 14, 15, 16])))))
theorem rPuStep : runCtr { (cx Try.prog ctsKT) with hints := hsPuStep } 20 cPuStep [(0,[13,14,15,16])] [(0,[13,14,15,16])] = tPuStep := by kernel_rfl

def hsPuErr : List (Nat × Nat × List Nat) := []
def tPuErr : Tree := (.and (.opn 0 13 (.ext (.mk 13 [.ex (.var 1), .ex (.var 2), .ex (.var 3), .ex (.var 4), .ex (.var 5), .ex (.var 6), .ex (.var 7)]) (.ret [.var 8, .ex (.lit 14)])))
 (.and (.opn 0 14 (.ext (.mk 14 [.ex (.var 1), .ex (.var 2), .ex (.var 3), .ex (.var 4), .ex (.var 5), .ex (.var 6), .ex (.var 7)]) (.ret [.var 8, .ex (.lit 14)])))
 (.and (.opn 0 15 (.ext (.mk 15 [.ex (.var 1), .ex (.var 2), .ex (.var 3), .ex (.var 4), .ex (.var 5), .ex (.var 6), .ex (.var 7)]) (.ret [.var 8, .ex (.lit 14)])))
 (.and (.opn 0 16 (.ext (.mk 16 [.ex (.var 1), .ex (.var 2), .ex (.var 3), .ex (.var 4), .ex (.var 5), .ex (.var 6), .ex (.var 7)]) (.ret [.var 8, .ex (.var 7)])))
 (.nomore 0 [13, 14, 15, 16])))))
theorem rPuErr : runCtr { (cx Try.prog []) with hints := hsPuErr } 20 cPuErr [(0,[13,14,15,16])] [(0,[13,14,15,16])] = tPuErr := by kernel_rfl

def hsNewAl : List (Nat × Nat × List Nat) := []
def tNewAl : Tree := (.ext (.mk 20 [.ex (.var 0), .ex (.var 1), .ex (.var 2), .ex (.lit 0), .ex (.lit 0), .ex (.lit 0), .ex (.lit 0)]) (.ret [.var 3]))
theorem rNewAl : runCtr { (cx Try.prog []) with hints := hsNewAl } 20 cNewAl [] [(0,[20,21,22,23])] = tNewAl := by kernel_rfl

def hsAlStep : List (Nat × Nat × List Nat) := []
def tAlStep : Tree := (.and (.opn 0 20 (.call 0 [.var 1, .ex (.var 2)] (.and (.call 11 [.ex (.var 2), .ex (.var 3), .ex (.var 4), .ex (.var 10)] (.br (.cmp .lss (.var 11) (.lit 0))
 (.ext (.mk 23 [.ex (.var 2), .ex (.var 3), .ex (.var 4), .ex (.var 10), .ex (.var 11), .ex (.var 7)]) (.ret [.var 12, .var 9, .bx (.lit true)]))
 (.ext (.mk 21 [.ex (.var 2), .ex (.var 3), .ex (.var 4), .ex (.var 10), .ex (.var 11), .ex (.var 7), .ex (.var 8)]) (.ret [.var 12, .var 9, .bx (.lit false)])))) .ok)))
 (.and (.opn 0 21 (.call 9 [.ex (.var 5)] (.call 10 [.ex (.lit (-1)), .ex (.bin .and .i64 (.bin .add .i64 (.var 10) (.lit 1)) (.lit 281474976710655))] (.and (.call 2 [.var 1, .ex (.var 2), .ex (.var 5), .ex (.var 11)] (.br (.var 14)
 (.ext (.mk 22 [.ex (.var 2), .ex (.var 3), .ex (.var 4), .ex (.var 5), .ex (.var 6), .ex (.var 7)]) (.ret [.var 15, .var 13, .bx (.lit true)]))
 (.ext (.mk 20 [.ex (.var 2), .ex (.var 3), .ex (.var 4), .ex (.var 5), .ex (.var 6), .ex (.var 7), .ex (.var 8)]) (.ret [.var 15, .var 13, .bx (.lit false)])))) .ok))))
 (.and (.opn 0 22 (.ext (.mk 22 [.ex (.var 2), .ex (.var 3), .ex (.var 4), .ex (.var 5), .ex (.var 6), .ex (.var 7)]) (.ret [.var 8, .var 1, .bx (.lit true)])))
 (.and (.opn 0 23 (.ext (.mk 23 [.ex (.var 2), .ex (.var 3), .ex (.var 4), .ex (.var 5), .ex (.var 6), .ex (.var 7)]) (.ret [.var 8, .var 1, .bx (.lit true)])))
 (.nomore 0 [20, 21, 22, 23])))))
theorem rAlStep : runCtr { (cx Try.prog ctsKT) with hints := hsAlStep } 20 cAlStep [(0,[20,21,22,23])] [(0,[20,21,22,23])] = tAlStep := by kernel_rfl

def hsAlIndex : List (Nat × Nat × List Nat) := []
def tAlIndex : Tree := (.and (.opn 0 20 (.ext (.mk 20 [.ex (.var 1), .ex (.var 2), .ex (.var 3), .ex (.var 4), .ex (.var 5), .ex (.var 6), .ex (.var 7)]) (.ret [.var 8, .ex (.lit 0), .ex (.lit 14)])))
 (.and (.opn 0 21 (.ext (.mk 21 [.ex (.var 1), .ex (.var 2), .ex (.var 3), .ex (.var 4), .ex (.var 5), .ex (.var 6), .ex (.var 7)]) (.ret [.var 8, .ex (.lit 0), .ex (.lit 14)])))
 (.and (.opn 0 22 (.ext (.mk 22 [.ex (.var 1), .ex (.var 2), .ex (.var 3), .ex (.var 4), .ex (.var 5), .ex (.var 6)]) (.ret [.var 7, .ex (.var 5), .ex (.lit 0)])))
 (.and (.opn 0 23 (.ext (.mk 23 [.ex (.var 1), .ex (.var 2), .ex (.var 3), .ex (.var 4), .ex (.var 5), .ex (.var 6)]) (.ret [.var 7, .ex (.lit 0), .ex (.lit 15)])))
 (.nomore 0 [20, 21, 22, 23])))))
theorem rAlIndex : runCtr { (cx Try.prog []) with hints := hsAlIndex } 20 cAlIndex [(0,[20,21,22,23])] [(0,[20,21,22,23])] = tAlIndex := by kernel_rfl

end Go.Proofs.Ytdabdbbgaekmdaa
