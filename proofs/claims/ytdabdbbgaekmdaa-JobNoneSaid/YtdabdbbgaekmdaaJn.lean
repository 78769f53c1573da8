/- Jobs of none: contracts. -/
import Derived.Test.YtdabdbbgaekmdaaJl
namespace Go.Proofs.Ytdabdbbgaekmdaa
set_option linter.unusedVariables false
set_option linter.unusedSimpArgs false
set_option linter.unusedSectionVars false
open Go

def ctsJN : List (Ctr U) := lsJl.map lit
def cJNone : Ctr U :=
  { fn := 9, nin := 4, args := [.int .i64 (.var 0), .int .i64 (.var 1), .int .i64 (.var 2), .int .i64 (.var 3)], heap := []
    pre := fun ins => ∃ i f t c, ins = [.i i, .i f, .i t, .i c], nout := 1, out := fun _ => [.b true], ret := .bool (.var 4), post := [] }
def cxJN (P : Program) : Cx U := { cx P ctsJN with join := true }
end Go.Proofs.Ytdabdbbgaekmdaa
