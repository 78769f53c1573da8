/- Texts of this proof. -/
import Derived.Test.YtbmbiiiacajolaaB1K
import Derived.Test.YtbmbiiiacajolaaB2K
namespace Go.Proofs.Ytbmbiiiacajolaa
set_option linter.unusedVariables false
set_option linter.unusedSimpArgs false
set_option linter.unusedSectionVars false
open Go
def refOk (w : Int) : Bool := decide (w / 281474976710656 % 32768 = 0 ∧ (w % 65536 = 0 → w / 65536 % 4294967296 = 0))
def refO (w : Int) : List (EV U) := if refOk w then [.i (w % 65536 - 1), .i (w / 65536 % 4294967296), .b (decide (w / 9223372036854775808 = 1)), .i 0] else [.i 0, .i 0, .b false, .i 5]
def cGetRefF (f : FuncId) : Ctr U :=
 { fn := f, nin := 1, args := [.int .u64 (.var 0)], heap := []
   pre := fun ins => ∃ w, ins = [.i w] ∧ isW w, nout := 4
   out := fun ins => refO (gI ins 0)
   ret := .tuple [.agg [.int .i64 (.var 1), .int .i64 (.var 2), .bool (.var 3)], .int .i64 (.var 4)], post := [] }
def cGetRef : Ctr U := cGetRefF 92
def cxJ (P : Program) (cts : List (Ctr U)) : Cx U := { cx P cts with join := true }
end Go.Proofs.Ytbmbiiiacajolaa
