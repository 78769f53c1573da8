/- States of jobs and their words: contracts of JobBack. -/
import Derived.Test.YtdabdbbgaekmdaaJwV
import Derived.Test.YtdabdbbgaekmdaaJk
namespace Go.Proofs.Ytdabdbbgaekmdaa
set_option linter.unusedVariables false
set_option linter.unusedSimpArgs false
set_option linter.unusedSectionVars false
open Go

def ctsJD : List (Ctr U) := [cJPut, cJGet, boolC 10]
def cJBack : Ctr U :=
  { fn := 11, nin := 7, args := [.agg [.int .i64 (.var 0), .int .i64 (.var 1), .int .i64 (.var 2)], .agg [.int .i64 (.var 3), .int .i64 (.var 4), .int .i64 (.var 5)], .int .u64 (.var 6)], heap := []
    pre := fun ins => ∃ s c g s' c' g' w, ins = [.i s, .i c, .i g, .i s', .i c', .i g', .i w] ∧ isW w, nout := 1, out := fun _ => [.b true], ret := .bool (.var 7), post := [] }
end Go.Proofs.Ytdabdbbgaekmdaa
