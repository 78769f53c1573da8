/- The chapter's laws with arguments: contracts. -/
import Derived.Test.YtbkaclkbjpdfnaaCk
namespace Go.Proofs.Ytbkaclkbjpdfnaa
set_option linter.unusedVariables false
set_option linter.unusedSimpArgs false
set_option linter.unusedSectionVars false
open Go

def cNone : Ctr U :=
  { fn := 7, nin := 3, args := [.int .i64 (.var 0), .int .u64 (.var 1), .int .u64 (.var 2)], heap := [], pre := fun ins => ∃ at_ a b, ins = [.i at_, .i a, .i b], nout := 1, out := fun _ => [.b true], ret := .bool (.var 3), post := [] }
def cActs : Ctr U :=
  { fn := 6, nin := 4, args := [.int .i64 (.var 0), .slice 0 (.var 2) (.var 3)], heap := [.ro [some .i64, some .i64, some .u64, some .u64] 1], pre := fun ins => ∃ n g k c, ins = [.i n, .f g k, .i k, .i c], nout := 1, out := fun _ => [.b true], ret := .bool (.var 4), post := [.ro [some .i64, some .i64, some .u64, some .u64] 1] }
def ctsL : List (Ctr U) := ctsC ++ [cAwake, cKnown]
def cxL (P : Program) : Cx U := cx P ctsL
end Go.Proofs.Ytbkaclkbjpdfnaa
