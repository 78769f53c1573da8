/- More contracts of memories, and of lists of words. -/
import Derived.Test.YtbkaclkbjpdfnaaCcV
namespace Go.Proofs.Ytbkaclkbjpdfnaa
set_option linter.unusedVariables false
set_option linter.unusedSimpArgs false
set_option linter.unusedSectionVars false
open Go

def cAdd : Ctr U :=
  { fn := 28, nin := 3, args := [.hnd 0, .int .i64 (.var 1), .int .u64 (.var 2)], heap := [.abs 0]
    pre := fun ins => ∃ M at_ x, ins = [.u (.mem M), .i at_, .i x], nout := 2
    out := fun ins => match ins with | [.u (.mem M), .i at_, .i x] => [.u (.mem (M.add at_ x)), .i (M.add at_ x).n] | _ => []
    ret := .int .u64 (.var 4), post := [.abs 3] }
def cSize : Ctr U :=
  { fn := 42, nin := 1, args := [.hnd 0], heap := [.abs 0]
    pre := fun ins => ∃ M, ins = [.u (.mem M)], nout := 2
    out := fun ins => match ins with | [.u (.mem M)] => [.u (.mem M), .i M.W.length] | _ => []
    ret := .int .i64 (.var 2), post := [.abs 1] }
def cCopy : Ctr U :=
  { fn := 44, nin := 1, args := [.hnd 0], heap := [.abs 0]
    pre := fun ins => ∃ M, ins = [.u (.mem M)], nout := 2
    out := fun ins => match ins with | [.u (.mem M)] => [.u (.mem M), .u (.mem M)] | _ => []
    ret := .hnd 1, post := [.abs 1, .abs 2] }
end Go.Proofs.Ytbkaclkbjpdfnaa
