/- The document's Passes as objects: contracts. -/
import Derived.Test.YtjohihkbampbgaaRmV
import Derived.Test.YtjohihkbampbgaaGsV
namespace Go.Proofs.Ytjohihkbampbgaa
set_option linter.unusedVariables false
set_option linter.unusedSimpArgs false
set_option linter.unusedSectionVars false
open Go

def ctsQ : List (Ctr U) := [cQLoad, cQStore, cQCAS, cQNew, cQLast, cQCount, cQAt]
theorem hctsQ : ∀ (ci : Nat) (c : Ctr U), ctsQ[ci]? = some c → c.Holds objs Try.prog := by
  intro ci c h
  match ci, h with
  | 0, h => cases h; exact hQLoad
  | 1, h => cases h; exact hQStore
  | 2, h => cases h; exact hQCAS
  | 3, h => cases h; exact hQNew
  | 4, h => cases h; exact hQLast
  | 5, h => cases h; exact hQCount
  | 6, h => cases h; exact hQAt
  | n + 7, h => cases h
def fitsF (f n s : Int) : Int := if s < 1 ∨ 4096 < s then 3 else if n < 1 ∨ 32 < n ∨ f < 0 ∨ IntKind.i64.wrap (s - n) < f then 2 else 0
def cFitsG : Ctr U :=
  { fn := 28, nin := 3, args := [.agg [.int .i64 (.var 0), .int .i64 (.var 1)], .int .i64 (.var 2)], heap := []
    pre := fun ins => ∃ f n s, ins = [.i f, .i n, .i s], nout := 1
    out := fun ins => match ins with | [.i f, .i n, .i s] => [.i (fitsF f n s)] | _ => []
    ret := .int .i64 (.var 3), post := [] }
def cQFits : Ctr U :=
  { fn := 33, nin := 3, args := [.agg [.int .i64 (.var 0), .int .i64 (.var 1)], .int .i64 (.var 2)], heap := []
    pre := fun ins => ∃ f n s, ins = [.i f, .i n, .i s], nout := 1
    out := fun ins => match ins with | [.i f, .i n, .i s] => [.i (fitsF f n s)] | _ => []
    ret := .int .i64 (.var 3), post := [] }
def cQStepP : Ctr U :=
  { fn := 38, nin := 2, args := [.hnd 0, .hnd 1], heap := [.abs 0, .abs 1]
    pre := fun ins => ∃ P M, ins = [.u (.rpass P), .u (.rmem M)] ∧ P.ok ∧ M.W.length ≤ 4096, nout := 3
    out := fun ins => match ins with | [.u (.rpass P), .u (.rmem M)] => [.u (.rpass (stepP P M).1), .u (.rmem (stepP P M).2), .b ((stepP P M).1.line == 9)] | _ => []
    ret := .bool (.var 4), post := [.abs 2, .abs 3] }
def cQErrP : Ctr U :=
  { fn := 17, nin := 1, args := [.hnd 0], heap := [.abs 0]
    pre := fun ins => ∃ P, ins = [.u (.rpass P)], nout := 2
    out := fun ins => match ins with | [.u (.rpass P)] => [.u (.rpass P), .i (errP P)] | _ => []
    ret := .int .i64 (.var 2), post := [.abs 1] }
def cQNewP : Ctr U :=
  { fn := 16, nin := 5, args := [.agg [.int .i64 (.var 0), .int .i64 (.var 1)], .int .i64 (.var 2), .int .i64 (.var 3), .int .i64 (.var 4)], heap := []
    pre := fun ins => ∃ f n t a w, ins = [.i f, .i n, .i t, .i a, .i w], nout := 1
    out := fun ins => match ins with | [.i f, .i n, .i t, .i a, .i w] => [.u (.rpass (newP f n t a w))] | _ => []
    ret := .hnd 0, post := [.abs 5] }
def cQLastG : Ctr U :=
  { fn := 39, nin := 4, args := [.agg [.int .i64 (.var 1), .int .i64 (.var 2)], .int .i64 (.var 3), .hnd 0], heap := [.abs 0]
    pre := fun ins => ∃ M f n t, ins = [.u (.rmem M), .i f, .i n, .i t] ∧ M.W.length ≤ 4096, nout := 3
    out := fun ins => match ins with | [.u (.rmem M), .i f, .i n, .i t] => [.u (.rmem M), .i ((gLast M f n t).getD 0), .b (gLast M f n t).isSome] | _ => []
    ret := .tuple [.int .i64 (.var 5), .bool (.var 6)], post := [.abs 4] }
def cQFill : Ctr U :=
  { fn := 37, nin := 3, args := [.agg [.int .i64 (.var 1), .int .i64 (.var 2)], .hnd 0], heap := [.abs 0]
    pre := fun ins => ∃ M f n, ins = [.u (.rmem M), .i f, .i n] ∧ M.W.length ≤ 4096, nout := 1
    out := fun ins => match ins with | [.u (.rmem M), .i f, .i n] => [.u (.rmem (if 1 ≤ n ∧ n ≤ 32 then fillM M f n.toNat else M))] | _ => []
    ret := .tuple [], post := [.abs 3] }
def qfillInv (env : List (EV U)) : Prop := ∃ M f n i, env = [.u (.rmem M), .i f, .i n, .u (.rmem (fillM M f i.toNat)), .i i] ∧ 0 ≤ i ∧ i ≤ n ∧ 1 ≤ n ∧ n ≤ 32 ∧ M.W.length ≤ 4096
def lQFill : LoopS U :=
  { fn := 37, rid := 3, nv := 2, tm := [(4, .int .i64 (.var 4))], hp := [(0, .abs 3)], reb := []
    inv := qfillInv, mu := fun env => (gI env 2 - gI env 4).toNat }
def cxQ (P : Program) : Cx U := { cx P ctsQ with loops := [lQFill] }
end Go.Proofs.Ytjohihkbampbgaa
