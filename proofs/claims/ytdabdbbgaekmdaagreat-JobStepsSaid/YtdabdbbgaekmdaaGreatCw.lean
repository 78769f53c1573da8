/- Contracts with loops: the words of a memory; lists of words. -/
import Derived.Test.YtdabdbbgaekmdaaGreatCcV
namespace Go.Proofs.YtdabdbbgaekmdaaGreat
set_option linter.unusedVariables false
set_option linter.unusedSimpArgs false
set_option linter.unusedSectionVars false
open Go

def cWords : Ctr U :=
  { fn := 27, nin := 1, args := [.hnd 0], heap := [.abs 0]
    pre := fun ins => ∃ M, ins = [.u (.mem M)], nout := 3
    out := fun ins => match ins with | [.u (.mem M)] => [.u (.mem M), .l M.W, .i M.W.length] | _ => []
    ret := .slice 1 (.var 3) (.var 3), post := [.abs 1, .row .u64 55 2] }
def lWords : LoopS U :=
  { fn := 27, rid := 5, nv := 2, tm := [(31, .int .i64 (.var 10))], hp := [(2, .row .u64 55 11)], reb := []
    inv := fun env => ∃ k xs, env.drop 10 = [.i k, .l xs] ∧ 0 ≤ k ∧ k ≤ gI env 2 ∧ xs = (gL env 1).take k.toNat ++ List.replicate (gI env 2 - k).toNat 0
    mu := fun env => (gI env 2 - gI env 10).toNat }
def cSameWords : Ctr U :=
  { fn := 26, nin := 6, args := [.slice 0 (.var 2) (.var 3), .slice 1 (.var 4) (.var 5)], heap := [.row .u64 55 0, .row .u64 55 1]
    pre := fun ins => ∃ xs ys a b c d, ins = [.l xs, .l ys, .i a, .i c, .i b, .i d] ∧ 0 ≤ a ∧ a ≤ xs.length ∧ 0 ≤ b ∧ b ≤ ys.length ∧ a < 2 ^ 62, nout := 1
    out := fun ins => match ins with | [.l xs, .l ys, .i a, _, .i b, _] => [.b (decide (xs.take a.toNat = ys.take b.toNat))] | _ => []
    ret := .bool (.var 6), post := [.row .u64 55 0, .row .u64 55 1] }
def lSameWords : LoopS U :=
  { fn := 26, rid := 3, nv := 2, tm := [(5, .bool (.var 7)), (6, .int .i64 (.var 6))], hp := [], reb := []
    inv := fun env => ∃ k b, env.drop 6 = [.i k, .b b] ∧ 0 ≤ k ∧ k ≤ gI env 2 ∧ (b = true → gI env 2 = gI env 4 ∧ (gL env 0).take k.toNat = (gL env 1).take k.toNat) ∧ (b = false → (gL env 0).take (gI env 2).toNat ≠ (gL env 1).take (gI env 4).toNat)
    mu := fun env => (gI env 2 - gI env 6).toNat + if gB env 7 then 1 else 0 }
def cPick : Ctr U :=
  { fn := 7, nin := 2, args := [.int .i64 (.var 0), .int .i64 (.var 1)], heap := []
    pre := fun ins => ∃ x n, ins = [.i x, .i n] ∧ 0 < n ∧ n < 2 ^ 62, nout := 1
    out := fun ins => match ins with | [.i x, .i n] => [.i (x.emod n)] | _ => []
    ret := .int .i64 (.var 2), post := [] }
def cxW (P : Program) : Cx U := { cx P [] with loops := [lWords, lSameWords] }
end Go.Proofs.YtdabdbbgaekmdaaGreat
