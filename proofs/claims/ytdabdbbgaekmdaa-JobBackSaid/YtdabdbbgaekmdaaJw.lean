/- Words of states of jobs: contracts. -/
import Derived.Test.YtdabdbbgaekmdaaJb
import Derived.Test.YtdabdbbgaekmdaaSy
import Derived.Test.YtdabdbbgaekmdaaWb
namespace Go.Proofs.Ytdabdbbgaekmdaa
set_option linter.unusedVariables false
set_option linter.unusedSimpArgs false
set_option linter.unusedSectionVars false
open Go

def jobE (s c g : Int) : Int := if s < 1 ∨ 5 < s ∨ c < 0 ∨ 64 ≤ c ∨ g < 0 ∨ 4294967295 < g then 3 else if c ≠ 0 ∧ s ≠ 4 then 5 else 0
def jobW (s c g : Int) : Int := if jobE s c g = 0 then s + 256 * c + 4294967296 * g else 0
def jobG (w : Int) : List (EV U) := if jobE (w % 256) (w / 256 % 256) (w / 4294967296) = 0 ∧ w % 256 + 256 * (w / 256 % 256) + 4294967296 * (w / 4294967296) = w then [.i (w % 256), .i (w / 256 % 256), .i (w / 4294967296), .i 0] else [.i 0, .i 0, .i 0, .i 5]
def cJPutF (f : FuncId) : Ctr U :=
  { fn := f, nin := 3, args := [.agg [.int .i64 (.var 0), .int .i64 (.var 1), .int .i64 (.var 2)]], heap := []
    pre := fun ins => ∃ s c g, ins = [.i s, .i c, .i g], nout := 2
    out := fun ins => [.i (jobW (gI ins 0) (gI ins 1) (gI ins 2)), .i (jobE (gI ins 0) (gI ins 1) (gI ins 2))]
    ret := .tuple [.int .u64 (.var 3), .int .i64 (.var 4)], post := [] }
def cJGetF (f : FuncId) : Ctr U :=
  { fn := f, nin := 1, args := [.int .u64 (.var 0)], heap := []
    pre := fun ins => ∃ w, ins = [.i w] ∧ isW w, nout := 4
    out := fun ins => jobG (gI ins 0)
    ret := .tuple [.agg [.int .i64 (.var 1), .int .i64 (.var 2), .int .i64 (.var 3)], .int .i64 (.var 4)], post := [] }
def cJPut : Ctr U := cJPutF 44
def cQPut : Ctr U := cJPutF 45
def cJGet : Ctr U := cJGetF 46
def cQGet : Ctr U := cJGetF 47
def cxJ (P : Program) (cts : List (Ctr U)) : Cx U := { cx P cts with join := true }
def ctsJW : List (Ctr U) := [cJPut, cQPut]
def ctsJX : List (Ctr U) := [cJPut, cQPut, cJGet, cQGet, boolC 48]
def cJWords : Ctr U :=
  { fn := 8, nin := 4, args := [.agg [.int .i64 (.var 0), .int .i64 (.var 1), .int .i64 (.var 2)], .int .u64 (.var 3)], heap := []
    pre := fun ins => ∃ s c g w, ins = [.i s, .i c, .i g, .i w] ∧ isW w, nout := 1, out := fun _ => [.b true], ret := .bool (.var 4), post := [] }
end Go.Proofs.Ytdabdbbgaekmdaa
