/- Epochs: the law on operations that are none: its contract. -/
import Derived.Test.YtjohihkbampbgaaEdV
import Derived.Test.YtjohihkbampbgaaEb
namespace Go.Proofs.Ytjohihkbampbgaa
set_option linter.unusedVariables false
set_option linter.unusedSimpArgs false
set_option linter.unusedSectionVars false
open Go

def cENone : Ctr U :=
  { fn := 12, nin := 5, args := [.agg [.int .i64 (.var 0), .int .i64 (.var 1), .int .i64 (.var 2)], .int .i64 (.var 3), .int .i64 (.var 4)], heap := []
    pre := fun ins => ∃ a b n c p, ins = [.i a, .i b, .i n, .i c, .i p], nout := 1, out := fun _ => [.b true], ret := .bool (.var 5), post := [] }
def ctsEN : List (Ctr U) := ctsEA ++ [cEFillNil, cEPinnedNil, cQEFits]
theorem hctsEN : ∀ (ci : Nat) (c : Ctr U), ctsEN[ci]? = some c → c.Holds objs Try.prog := ctsApp hctsEA (by intro ci c h; match ci, h with | 0, h => cases h; exact hEFillNil | 1, h => cases h; exact hEPinnedNil | 2, h => cases h; exact hQEFits | n + 3, h => cases h)
end Go.Proofs.Ytjohihkbampbgaa
