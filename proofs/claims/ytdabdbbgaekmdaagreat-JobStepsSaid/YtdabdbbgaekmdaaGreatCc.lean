/- The contracts of memories: what each function is said to do. -/
import Derived.Test.YtdabdbbgaekmdaaGreatOb
namespace Go.Proofs.YtdabdbbgaekmdaaGreat
set_option linter.unusedVariables false
set_option linter.unusedSimpArgs false
set_option linter.unusedSectionVars false
open Go

def cLoad : Ctr U :=
  { fn := 124, nin := 2, args := [.hnd 0, .int .i64 (.var 1)], heap := [.abs 0]
    pre := fun ins => ∃ M at_, ins = [.u (.mem M), .i at_], nout := 2
    out := fun ins => match ins with | [.u (.mem M), .i at_] => [.u (.mem (M.load at_)), .i (M.load at_).n] | _ => []
    ret := .int .u64 (.var 3), post := [.abs 2] }
def cStore : Ctr U :=
  { fn := 62, nin := 3, args := [.hnd 0, .int .i64 (.var 1), .int .u64 (.var 2)], heap := [.abs 0]
    pre := fun ins => ∃ M at_ x, ins = [.u (.mem M), .i at_, .i x], nout := 1
    out := fun ins => match ins with | [.u (.mem M), .i at_, .i x] => [.u (.mem (M.store at_ x))] | _ => []
    ret := .tuple [], post := [.abs 3] }
def cCAS : Ctr U :=
  { fn := 150, nin := 4, args := [.hnd 0, .int .i64 (.var 1), .int .u64 (.var 2), .int .u64 (.var 3)], heap := [.abs 0]
    pre := fun ins => ∃ M at_ x y, ins = [.u (.mem M), .i at_, .i x, .i y], nout := 2
    out := fun ins => match ins with | [.u (.mem M), .i at_, .i x, .i y] => [.u (.mem (M.cas at_ x y)), .b (M.cas at_ x y).h] | _ => []
    ret := .bool (.var 5), post := [.abs 4] }
def cNew : Ctr U :=
  { fn := 47, nin := 1, args := [.int .i64 (.var 0)], heap := []
    pre := fun ins => ∃ n, ins = [.i n], nout := 2
    out := fun ins => match ins with | [.i n] => if 1 ≤ n ∧ n ≤ 4096 then [.u (.mem (.new n)), .i 0] else [.u .memNil, .i 3] | _ => []
    ret := .tuple [.hnd 0, .int .i64 (.var 2)], post := [.abs 1] }
def cLast : Ctr U :=
  { fn := 22, nin := 1, args := [.hnd 0], heap := [.abs 0]
    pre := fun ins => ∃ M, ins = [.u (.mem M)], nout := 6
    out := fun ins => match ins with | [.u (.mem M)] => [.u (.mem M), .i M.k, .i M.a, .i M.o, .i M.n, .b M.h] | _ => []
    ret := .agg [.int .i64 (.var 2), .int .i64 (.var 3), .int .u64 (.var 4), .int .u64 (.var 5), .bool (.var 6)], post := [.abs 1] }
def cCount : Ctr U :=
  { fn := 24, nin := 1, args := [.hnd 0], heap := [.abs 0]
    pre := fun ins => ∃ M, ins = [.u (.mem M)], nout := 2
    out := fun ins => match ins with | [.u (.mem M)] => [.u (.mem M), .i M.N] | _ => []
    ret := .int .i64 (.var 2), post := [.abs 1] }
end Go.Proofs.YtdabdbbgaekmdaaGreat
