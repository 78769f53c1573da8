/- The chapter's other laws: contracts. -/
import Derived.Test.YtbkaclkbjpdfnaaCn
namespace Go.Proofs.Ytbkaclkbjpdfnaa
set_option linter.unusedVariables false
set_option linter.unusedSimpArgs false
set_option linter.unusedSectionVars false
open Go

def doesM (M : MemSt) (k at_ o n : Int) : MemSt := if k = 1 then M.load at_ else if k = 2 then M.store at_ o else if k = 3 then M.cas at_ o n else if k = 4 then M.add at_ o else M
def doesT (M : MemSt) (k at_ o n : Int) : Int := if k = 1 then (M.load at_).n else if k = 2 then 0 else if k = 3 then (if (M.cas at_ o n).h then 1 else 0) else if k = 4 then (M.add at_ o).n else 0
def cDoes : Ctr U :=
  { fn := 34, nin := 5, args := [.hnd 0, .agg [.int .i64 (.var 1), .int .i64 (.var 2), .int .u64 (.var 3), .int .u64 (.var 4)]], heap := [.abs 0]
    pre := fun ins => ∃ M k a o n, ins = [.u (.mem M), .i k, .i a, .i o, .i n], nout := 2
    out := fun ins => match ins with | [.u (.mem M), .i k, .i a, .i o, .i n] => [.u (.mem (doesM M k a o n)), .i (doesT M k a o n)] | _ => []
    ret := .int .u64 (.var 6), post := [.abs 5] }
def cAlike : Ctr U :=
  { fn := 45, nin := 2, args := [.hnd 0, .hnd 1], heap := [.abs 0, .abs 1]
    pre := fun ins => ∃ M, ins = [.u (.mem M), .u (.mem M)] ∧ M.W.length ≤ 4096, nout := 3
    out := fun ins => match ins with | [.u (.mem M), .u (.mem A)] => [.u (.mem M), .u (.mem A), .b true] | _ => []
    ret := .bool (.var 4), post := [.abs 2, .abs 3] }
end Go.Proofs.Ytbkaclkbjpdfnaa
