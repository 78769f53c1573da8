/- Contracts of the document's memories, whose blocks are told one by one. -/
import Derived.Test.YtbkaclkbjpdfnaaCdV
namespace Go.Proofs.Ytbkaclkbjpdfnaa
set_option linter.unusedVariables false
set_option linter.unusedSimpArgs false
set_option linter.unusedSectionVars false
open Go

/-- the cells of the document's memory: its numbers stand at i, its row has the name r -/
def refM (r len i : Nat) : HE := .cells [.slice r (.var len) (.var len), .int .i64 (.var i), .int .i64 (.var (i + 1)), .int .u64 (.var (i + 2)), .int .u64 (.var (i + 3)), .bool (.var (i + 4)), .int .i64 (.var (i + 5))] 65
def rNums (M : MemSt) : List (EV U) := [.l M.W, .i M.W.length, .i M.k, .i M.a, .i M.o, .i M.n, .b M.h, .i M.N]
def rOut (M : MemSt) : List (EV U) := [.l M.W, .i M.k, .i M.a, .i M.o, .i M.n, .b M.h, .i M.N]
def cRLoad : Ctr U :=
  { fn := 38, nin := 9, args := [.ptr 0 0, .int .i64 (.var 8)], heap := [refM 1 1 2, .row .u64 30 0]
    pre := fun ins => ∃ M at_, ins = rNums M ++ [.i at_] ∧ M.W.length ≤ 4096, nout := 8
    out := fun ins => match ins with | [.l W, .i _, .i k, .i a, .i o, .i n, .b h, .i N, .i at_] => rOut (MemSt.load ⟨W, k, a, o, n, h, N⟩ at_) ++ [.i (MemSt.load ⟨W, k, a, o, n, h, N⟩ at_).n] | _ => []
    ret := .int .u64 (.var 16), post := [refM 1 1 10, .row .u64 30 9] }
def cRStore : Ctr U :=
  { fn := 39, nin := 10, args := [.ptr 0 0, .int .i64 (.var 8), .int .u64 (.var 9)], heap := [refM 1 1 2, .row .u64 30 0]
    pre := fun ins => ∃ M at_ x, ins = rNums M ++ [.i at_, .i x] ∧ M.W.length ≤ 4096, nout := 7
    out := fun ins => match ins with | [.l W, .i _, .i k, .i a, .i o, .i n, .b h, .i N, .i at_, .i x] => rOut (MemSt.store ⟨W, k, a, o, n, h, N⟩ at_ x) | _ => []
    ret := .tuple [], post := [refM 1 1 11, .row .u64 30 10] }
def cRCAS : Ctr U :=
  { fn := 40, nin := 11, args := [.ptr 0 0, .int .i64 (.var 8), .int .u64 (.var 9), .int .u64 (.var 10)], heap := [refM 1 1 2, .row .u64 30 0]
    pre := fun ins => ∃ M at_ x y, ins = rNums M ++ [.i at_, .i x, .i y] ∧ M.W.length ≤ 4096, nout := 8
    out := fun ins => match ins with | [.l W, .i _, .i k, .i a, .i o, .i n, .b h, .i N, .i at_, .i x, .i y] => rOut (MemSt.cas ⟨W, k, a, o, n, h, N⟩ at_ x y) ++ [.b (MemSt.cas ⟨W, k, a, o, n, h, N⟩ at_ x y).h] | _ => []
    ret := .bool (.var 18), post := [refM 1 1 12, .row .u64 30 11] }
def cRAdd : Ctr U :=
  { fn := 41, nin := 10, args := [.ptr 0 0, .int .i64 (.var 8), .int .u64 (.var 9)], heap := [refM 1 1 2, .row .u64 30 0]
    pre := fun ins => ∃ M at_ x, ins = rNums M ++ [.i at_, .i x] ∧ M.W.length ≤ 4096, nout := 8
    out := fun ins => match ins with | [.l W, .i _, .i k, .i a, .i o, .i n, .b h, .i N, .i at_, .i x] => rOut (MemSt.add ⟨W, k, a, o, n, h, N⟩ at_ x) ++ [.i (MemSt.add ⟨W, k, a, o, n, h, N⟩ at_ x).n] | _ => []
    ret := .int .u64 (.var 17), post := [refM 1 1 11, .row .u64 30 10] }
end Go.Proofs.Ytbkaclkbjpdfnaa
