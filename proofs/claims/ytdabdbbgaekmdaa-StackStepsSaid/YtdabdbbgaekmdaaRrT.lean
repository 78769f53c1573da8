/- The ways of the runs, as a program of ours printed them. -/
import Derived.Test.YtdabdbbgaekmdaaRr
import Derived.KernelRfl
namespace Go.Proofs.Ytdabdbbgaekmdaa
set_option linter.unusedVariables false
set_option linter.unusedSimpArgs false
set_option linter.unusedSectionVars false
open Go
set_option maxRecDepth 100000

def hsRLoad : List (Nat × Nat × List Nat) := []
def tRLoad : Tree := (.br (.cmp .lss (.var 8) (.lit 0))
 (.ret [.var 0, .ex (.var 1), .ex (.lit 1), .ex (.var 8), .ex (.lit 0), .ex (.lit 0), .bx (.lit false), .ex (.bin .add .i64 (.var 7) (.lit 1)), .ex (.lit 0)])
 (.need (.cmp .leq (.lit 0) (.var 1)) (.br (.cmp .geq (.var 8) (.var 1))
 (.ret [.var 0, .ex (.var 1), .ex (.lit 1), .ex (.var 8), .ex (.lit 0), .ex (.lit 0), .bx (.lit false), .ex (.bin .add .i64 (.var 7) (.lit 1)), .ex (.lit 0)])
 (.need (.cmp .leq (.lit 0) (.var 8)) (.need (.cmp .lss (.var 8) (.var 1)) (.need (.cmp .lss (.var 8) (.len 0)) (.need (.cmp .leq (.lit 0) (.var 8)) (.need (.cmp .lss (.var 8) (.len 0)) (.need (.cmp .leq (.lit 0) (.var 8)) (.need (.cmp .lss (.var 8) (.var 1)) (.need (.cmp .lss (.var 8) (.len 0)) (.need (.cmp .leq (.lit 0) (.var 8)) (.need (.cmp .lss (.var 8) (.len 0)) (.ret [.var 0, .ex (.var 1), .ex (.lit 1), .ex (.var 8), .ex (.nth 0 (.var 8)), .ex (.nth 0 (.var 8)), .bx (.lit false), .ex (.bin .add .i64 (.var 7) (.lit 1)), .ex (.nth 0 (.var 8))]))))))))))))))
theorem rRLoad : runCtr { (cx Try.prog []) with hints := hsRLoad } 20 cRLoad [] [] = tRLoad := by kernel_rfl

def hsRStore : List (Nat × Nat × List Nat) := []
def tRStore : Tree := (.br (.cmp .lss (.var 8) (.lit 0))
 (.ret [.var 0, .ex (.var 1), .ex (.lit 2), .ex (.var 8), .ex (.lit 0), .ex (.lit 0), .bx (.lit false), .ex (.bin .add .i64 (.var 7) (.lit 1))])
 (.need (.cmp .leq (.lit 0) (.var 1)) (.br (.cmp .geq (.var 8) (.var 1))
 (.ret [.var 0, .ex (.var 1), .ex (.lit 2), .ex (.var 8), .ex (.lit 0), .ex (.lit 0), .bx (.lit false), .ex (.bin .add .i64 (.var 7) (.lit 1))])
 (.need (.cmp .leq (.lit 0) (.var 8)) (.need (.cmp .lss (.var 8) (.var 1)) (.need (.cmp .lss (.var 8) (.len 0)) (.need (.cmp .leq (.lit 0) (.var 8)) (.need (.cmp .lss (.var 8) (.len 0)) (.need (.cmp .leq (.lit 0) (.var 8)) (.need (.cmp .lss (.var 8) (.var 1)) (.need (.cmp .lss (.var 8) (.len 0)) (.need (.cmp .leq (.lit 0) (.var 8)) (.need (.cmp .lss (.var 8) (.len 0)) (.ext (.setl 0 (.var 8) (.var 9)) (.need (.cmp .leq (.lit 0) (.var 8)) (.need (.cmp .lss (.var 8) (.var 1)) (.need (.cmp .lss (.var 8) (.len 10)) (.need (.cmp .leq (.lit 0) (.var 8)) (.need (.cmp .lss (.var 8) (.len 10)) (.ret [.var 10, .ex (.var 1), .ex (.lit 2), .ex (.var 8), .ex (.nth 0 (.var 8)), .ex (.nth 10 (.var 8)), .bx (.lit true), .ex (.bin .add .i64 (.var 7) (.lit 1))]))))))))))))))))))))
theorem rRStore : runCtr { (cx Try.prog []) with hints := hsRStore } 20 cRStore [] [] = tRStore := by kernel_rfl

def hsRCAS : List (Nat × Nat × List Nat) := []
def tRCAS : Tree := (.br (.cmp .lss (.var 8) (.lit 0))
 (.ret [.var 0, .ex (.var 1), .ex (.lit 3), .ex (.var 8), .ex (.lit 0), .ex (.lit 0), .bx (.lit false), .ex (.bin .add .i64 (.var 7) (.lit 1)), .bx (.lit false)])
 (.need (.cmp .leq (.lit 0) (.var 1)) (.br (.cmp .geq (.var 8) (.var 1))
 (.need (.cmp .leq (.lit 0) (.var 1)) (.ret [.var 0, .ex (.var 1), .ex (.lit 3), .ex (.var 8), .ex (.lit 0), .ex (.lit 0), .bx (.lit false), .ex (.bin .add .i64 (.var 7) (.lit 1)), .bx (.lit false)]))
 (.need (.cmp .leq (.lit 0) (.var 8)) (.need (.cmp .lss (.var 8) (.var 1)) (.need (.cmp .lss (.var 8) (.len 0)) (.need (.cmp .leq (.lit 0) (.var 8)) (.need (.cmp .lss (.var 8) (.len 0)) (.need (.cmp .leq (.lit 0) (.var 1)) (.need (.cmp .leq (.lit 0) (.var 8)) (.need (.cmp .lss (.var 8) (.var 1)) (.need (.cmp .lss (.var 8) (.len 0)) (.need (.cmp .leq (.lit 0) (.var 8)) (.need (.cmp .lss (.var 8) (.len 0)) (.br (.cmp .eql (.nth 0 (.var 8)) (.var 9))
 (.need (.cmp .leq (.lit 0) (.var 8)) (.need (.cmp .lss (.var 8) (.var 1)) (.need (.cmp .lss (.var 8) (.len 0)) (.need (.cmp .leq (.lit 0) (.var 8)) (.need (.cmp .lss (.var 8) (.len 0)) (.ext (.setl 0 (.var 8) (.var 10)) (.need (.cmp .leq (.lit 0) (.var 8)) (.need (.cmp .lss (.var 8) (.var 1)) (.need (.cmp .lss (.var 8) (.len 11)) (.need (.cmp .leq (.lit 0) (.var 8)) (.need (.cmp .lss (.var 8) (.len 11)) (.ret [.var 11, .ex (.var 1), .ex (.lit 3), .ex (.var 8), .ex (.nth 0 (.var 8)), .ex (.nth 11 (.var 8)), .bx (.cmp .eql (.nth 0 (.var 8)) (.var 9)), .ex (.bin .add .i64 (.var 7) (.lit 1)), .bx (.cmp .eql (.nth 0 (.var 8)) (.var 9))]))))))))))))
 (.need (.cmp .leq (.lit 0) (.var 8)) (.need (.cmp .lss (.var 8) (.var 1)) (.need (.cmp .lss (.var 8) (.len 0)) (.need (.cmp .leq (.lit 0) (.var 8)) (.need (.cmp .lss (.var 8) (.len 0)) (.ret [.var 0, .ex (.var 1), .ex (.lit 3), .ex (.var 8), .ex (.nth 0 (.var 8)), .ex (.nth 0 (.var 8)), .bx (.cmp .eql (.nth 0 (.var 8)) (.var 9)), .ex (.bin .add .i64 (.var 7) (.lit 1)), .bx (.cmp .eql (.nth 0 (.var 8)) (.var 9))])))))))))))))))))))))
theorem rRCAS : runCtr { (cx Try.prog []) with hints := hsRCAS } 20 cRCAS [] [] = tRCAS := by kernel_rfl

def hsRAt : List (Nat × Nat × List Nat) := []
def tRAt : Tree := (.br (.cmp .lss (.var 8) (.lit 0))
 (.ret [.var 0, .ex (.var 1), .ex (.var 2), .ex (.var 3), .ex (.var 4), .ex (.var 5), .bx (.var 6), .ex (.var 7), .ex (.lit 0)])
 (.need (.cmp .leq (.lit 0) (.var 1)) (.br (.cmp .geq (.var 8) (.var 1))
 (.ret [.var 0, .ex (.var 1), .ex (.var 2), .ex (.var 3), .ex (.var 4), .ex (.var 5), .bx (.var 6), .ex (.var 7), .ex (.lit 0)])
 (.need (.cmp .leq (.lit 0) (.var 8)) (.need (.cmp .lss (.var 8) (.var 1)) (.need (.cmp .lss (.var 8) (.len 0)) (.need (.cmp .leq (.lit 0) (.var 8)) (.need (.cmp .lss (.var 8) (.len 0)) (.ret [.var 0, .ex (.var 1), .ex (.var 2), .ex (.var 3), .ex (.var 4), .ex (.var 5), .bx (.var 6), .ex (.var 7), .ex (.nth 0 (.var 8))])))))))))
theorem rRAt : runCtr { (cx Try.prog []) with hints := hsRAt } 20 cRAt [] [] = tRAt := by kernel_rfl

def hsRNew : List (Nat × Nat × List Nat) := []
def tRNew : Tree := (.br (.cmp .lss (.var 0) (.lit 1))
 (Tree.fail "result form")
 (.br (.cmp .gtr (.var 0) (.lit 4096))
 (Tree.fail "result form")
 (.need (.cmp .leq (.lit 0) (.var 0)) (.need (.cmp .leq (.var 0) (.lit 1000000)) (.ext (.repl (.var 0) (.lit 0)) (.ret [.var 1, .ex (.var 0), .ex (.lit 0), .ex (.lit 0), .ex (.lit 0), .ex (.lit 0), .bx (.lit false), .ex (.lit 0)]))))))
theorem rRNew : runCtr { (cx Try.prog []) with hints := hsRNew } 20 cRNew [] [] = tRNew := by kernel_rfl

end Go.Proofs.Ytdabdbbgaekmdaa
