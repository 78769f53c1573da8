/- The document's memories as open blocks: contracts. -/
import Derived.Test.YtdabdbbgaekmdaaKqV
namespace Go.Proofs.Ytdabdbbgaekmdaa
set_option linter.unusedVariables false
set_option linter.unusedSimpArgs false
set_option linter.unusedSectionVars false
open Go

/-- a memory's numbers, as the blocks hold them -/
def rmR (M : MemSt) : List (EV U) := [.l M.W, .i M.W.length, .i M.k, .i M.a, .i M.o, .i M.n, .b M.h, .i M.N]
def rmC (j nm : Nat) : HE := .cells [.slice nm (.var (j + 1)) (.var (j + 1)), .int .i64 (.var (j + 2)), .int .i64 (.var (j + 3)), .int .u64 (.var (j + 4)), .int .u64 (.var (j + 5)), .bool (.var (j + 6)), .int .i64 (.var (j + 7))] 82
def rmW (j : Nat) : HE := .row .u64 30 j

def cRLoad : Ctr U :=
  { fn := 127, nin := 9, args := [.ptr 0 0, .int .i64 (.var 8)], heap := [rmC 0 1, rmW 0]
    pre := fun ins => ∃ M : MemSt, ∃ x, ins = rmR M ++ [.i x] ∧ M.W.length ≤ 4096, nout := 9
    out := fun ins => match ins with | [.l W, _, .i k, .i a, .i o, .i n, .b h, .i N, .i x] => rmR (MemSt.load ⟨W, k, a, o, n, h, N⟩ x) ++ [.i (MemSt.load ⟨W, k, a, o, n, h, N⟩ x).n] | _ => []
    ret := .int .u64 (.var 17), post := [rmC 9 1, rmW 9] }
def cRStore : Ctr U :=
  { fn := 86, nin := 10, args := [.ptr 0 0, .int .i64 (.var 8), .int .u64 (.var 9)], heap := [rmC 0 1, rmW 0]
    pre := fun ins => ∃ M : MemSt, ∃ x y, ins = rmR M ++ [.i x, .i y] ∧ M.W.length ≤ 4096, nout := 8
    out := fun ins => match ins with | [.l W, _, .i k, .i a, .i o, .i n, .b h, .i N, .i x, .i y] => rmR (MemSt.store ⟨W, k, a, o, n, h, N⟩ x y) | _ => []
    ret := .tuple [], post := [rmC 10 1, rmW 10] }
def cRCAS : Ctr U :=
  { fn := 128, nin := 11, args := [.ptr 0 0, .int .i64 (.var 8), .int .u64 (.var 9), .int .u64 (.var 10)], heap := [rmC 0 1, rmW 0]
    pre := fun ins => ∃ M : MemSt, ∃ x y z, ins = rmR M ++ [.i x, .i y, .i z] ∧ M.W.length ≤ 4096, nout := 9
    out := fun ins => match ins with | [.l W, _, .i k, .i a, .i o, .i n, .b h, .i N, .i x, .i y, .i z] => rmR (MemSt.cas ⟨W, k, a, o, n, h, N⟩ x y z) ++ [.b (MemSt.cas ⟨W, k, a, o, n, h, N⟩ x y z).h] | _ => []
    ret := .bool (.var 19), post := [rmC 11 1, rmW 11] }
def cRAt : Ctr U :=
  { fn := 97, nin := 9, args := [.ptr 0 0, .int .i64 (.var 8)], heap := [rmC 0 1, rmW 0]
    pre := fun ins => ∃ M : MemSt, ∃ x, ins = rmR M ++ [.i x] ∧ M.W.length ≤ 4096, nout := 9
    out := fun ins => match ins with | [.l W, _, .i k, .i a, .i o, .i n, .b h, .i N, .i x] => rmR ⟨W, k, a, o, n, h, N⟩ ++ [.i (MemSt.at0 ⟨W, k, a, o, n, h, N⟩ x)] | _ => []
    ret := .int .u64 (.var 17), post := [rmC 9 1, rmW 9] }
def cRNew : Ctr U :=
  { fn := 84, nin := 1, args := [.int .i64 (.var 0)], heap := []
    pre := fun ins => ∃ n, ins = [.i n] ∧ 1 ≤ n ∧ n ≤ 4096, nout := 8
    out := fun ins => match ins with | [.i n] => rmR (.new n) | _ => []
    ret := .tuple [.ptr 0 0, .int .i64 (.lit 0)], post := [rmC 1 1, rmW 1] }
end Go.Proofs.Ytdabdbbgaekmdaa
