/- The document's stacks: what each function is said to do. -/
import Derived.Test.YtdabdbbgaekmdaaKaX
namespace Go.Proofs.Ytdabdbbgaekmdaa
set_option linter.unusedVariables false
set_option linter.unusedSimpArgs false
set_option linter.unusedSectionVars false
open Go

def cQSFits : Ctr U :=
  { fn := 38, nin := 4, args := [stk3, .int .i64 (.var 3)], heap := []
    pre := fun ins => ∃ a b n s, ins = [.i a, .i b, .i n, .i s], nout := 1
    out := fun ins => match ins with | [.i a, .i b, .i n, .i s] => [.i (fitsS a b n s)] | _ => []
    ret := .int .i64 (.var 4), post := [] }
def cQIdx : Ctr U :=
  { fn := 96, nin := 4, args := [stk3, .int .u64 (.var 3)], heap := []
    pre := fun ins => ∃ a b n w, ins = [.i a, .i b, .i n, .i w] ∧ isW w, nout := 1
    out := fun ins => match ins with | [.i a, .i b, .i n, .i w] => [.i (idxW n w)] | _ => []
    ret := .int .i64 (.var 4), post := [] }
def cQTop : Ctr U :=
  { fn := 129, nin := 2, args := [.int .i64 (.var 0), .int .u64 (.var 1)], heap := []
    pre := fun ins => ∃ i w, ins = [.i i, .i w] ∧ -1 ≤ i ∧ i ≤ 65534 ∧ isW w, nout := 1
    out := fun ins => match ins with | [.i i, .i w] => [.i (topW i w)] | _ => []
    ret := .int .u64 (.var 2), post := [] }
def cQSFill : Ctr U :=
  { fn := 85, nin := 4, args := [stk3', .hnd 0], heap := [.abs 0]
    pre := fun ins => ∃ M a b n, ins = [.u (.rmem M), .i a, .i b, .i n] ∧ M.fine, nout := 1
    out := fun ins => match ins with | [.u (.rmem M), .i a, .i b, .i n] => [.u (.rmem (fillSt M a b n))] | _ => []
    ret := .tuple [], post := [.abs 4] }
def cQChain : Ctr U :=
  { fn := 42, nin := 4, args := [stk3', .hnd 0], heap := [.abs 0]
    pre := fun ins => ∃ M a b n, ins = [.u (.rmem M), .i a, .i b, .i n] ∧ M.fine ∧ n ≤ 4096, nout := 4
    out := fun _ => []
    many := some fun c ins => match ins with | [.u (.rmem M), .i a, .i b, .i n] => [.u (.rmem M), .l (chainS M a b n ++ c), .i (chainS M a b n).length, .i (((chainS M a b n).length + c.length : Nat) : Int)] | _ => []
    ret := .slice 1 (.var 6) (.var 7), post := [.abs 4, .row .i64 3 5] }
def cQNewPo : Ctr U :=
  { fn := 87, nin := 3, args := [stk3], heap := []
    pre := fun ins => ∃ a b n, ins = [.i a, .i b, .i n], nout := 1
    out := fun ins => match ins with | [.i a, .i b, .i n] => [.u (.rpop (newPo a b n))] | _ => []
    ret := .hnd 0, post := [.abs 3] }
def cQPoStep : Ctr U :=
  { fn := 90, nin := 2, args := [.hnd 0, .hnd 1], heap := [.abs 0, .abs 1]
    pre := fun ins => ∃ P M, ins = [.u (.rpop P), .u (.rmem M)] ∧ P.ok ∧ M.fine, nout := 3
    out := fun ins => match ins with | [.u (.rpop P), .u (.rmem M)] => [.u (.rpop (stepPo P M).1), .u (.rmem (stepPo P M).2), .b ((stepPo P M).1.line == 9)] | _ => []
    ret := .bool (.var 4), post := [.abs 2, .abs 3] }
def cQPoIndex : Ctr U :=
  { fn := 91, nin := 1, args := [.hnd 0], heap := [.abs 0]
    pre := fun ins => ∃ P, ins = [.u (.rpop P)] ∧ P.ok, nout := 3
    out := fun ins => match ins with | [.u (.rpop P)] => [.u (.rpop P), .i (toldS P.line P.i).1, .i (toldS P.line P.i).2] | _ => []
    ret := .tuple [.int .i64 (.var 2), .int .i64 (.var 3)], post := [.abs 1] }
def cQNewPu : Ctr U :=
  { fn := 88, nin := 4, args := [stk3, .int .i64 (.var 3)], heap := []
    pre := fun ins => ∃ a b n i, ins = [.i a, .i b, .i n, .i i], nout := 1
    out := fun ins => match ins with | [.i a, .i b, .i n, .i i] => [.u (.rpush (newPu a b n i))] | _ => []
    ret := .hnd 0, post := [.abs 4] }
def cQPuStep : Ctr U :=
  { fn := 92, nin := 2, args := [.hnd 0, .hnd 1], heap := [.abs 0, .abs 1]
    pre := fun ins => ∃ P M, ins = [.u (.rpush P), .u (.rmem M)] ∧ P.ok ∧ M.fine, nout := 3
    out := fun ins => match ins with | [.u (.rpush P), .u (.rmem M)] => [.u (.rpush (stepPu P M).1), .u (.rmem (stepPu P M).2), .b ((stepPu P M).1.line == 9)] | _ => []
    ret := .bool (.var 4), post := [.abs 2, .abs 3] }
def cQPuErr : Ctr U :=
  { fn := 93, nin := 1, args := [.hnd 0], heap := [.abs 0]
    pre := fun ins => ∃ P, ins = [.u (.rpush P)] ∧ P.ok, nout := 2
    out := fun ins => match ins with | [.u (.rpush P)] => [.u (.rpush P), .i (errPu P)] | _ => []
    ret := .int .i64 (.var 2), post := [.abs 1] }
def cQNewAl : Ctr U :=
  { fn := 89, nin := 3, args := [stk3], heap := []
    pre := fun ins => ∃ a b n, ins = [.i a, .i b, .i n], nout := 1
    out := fun ins => match ins with | [.i a, .i b, .i n] => [.u (.rall (newAl a b n))] | _ => []
    ret := .hnd 0, post := [.abs 3] }
def cQAlStep : Ctr U :=
  { fn := 94, nin := 2, args := [.hnd 0, .hnd 1], heap := [.abs 0, .abs 1]
    pre := fun ins => ∃ P M, ins = [.u (.rall P), .u (.rmem M)] ∧ P.ok ∧ M.fine, nout := 3
    out := fun ins => match ins with | [.u (.rall P), .u (.rmem M)] => [.u (.rall (stepAl P M).1), .u (.rmem (stepAl P M).2), .b ((stepAl P M).1.line == 9)] | _ => []
    ret := .bool (.var 4), post := [.abs 2, .abs 3] }
def cQAlIndex : Ctr U :=
  { fn := 95, nin := 1, args := [.hnd 0], heap := [.abs 0]
    pre := fun ins => ∃ P, ins = [.u (.rall P)] ∧ P.ok, nout := 3
    out := fun ins => match ins with | [.u (.rall P)] => [.u (.rall P), .i (toldS P.line P.i).1, .i (toldS P.line P.i).2] | _ => []
    ret := .tuple [.int .i64 (.var 2), .int .i64 (.var 3)], post := [.abs 1] }
def ctsKQ : List (Ctr U) := [cQLoad, cQStore, cQCAS, cQAt, cQIdx, cQTop]
/-! ### loops -/
def qsFillInv (env : List (EV U)) : Prop := ∃ M a b n x0 i, env = [.u (.rmem M), .i a, .i b, .i n, x0, .u (.rmem (fillK M a b n i.toNat)), .i i] ∧ 0 ≤ i ∧ i + 1 ≤ n ∧ n ≤ 4096 ∧ M.fine
def lQSFill : LoopS U :=
  { fn := 85, rid := 4, nv := 2, tm := [(4, .int .i64 (.var 6))], hp := [(0, .abs 5)], reb := [], inv := qsFillInv, mu := fun env => (gI env 3 - gI env 6).toNat }
def qChainInv (env : List (EV U)) : Prop := ∃ M a b n x4 x5 x6 i k xs c, env = [.u (.rmem M), .i a, .i b, .i n, x4, x5, x6, .u (.rmem M), .i i, .i k, .l xs, .i c] ∧ M.fine ∧ n ≤ 4096 ∧ 0 ≤ k ∧ k ≤ n.toNat ∧ c = xs.length ∧ k ≤ c ∧ xs.take k.toNat ++ chainL M b n (n.toNat - k.toNat) i = chainS M a b n ∧ i ≤ 65534
def lQChain : LoopS U :=
  { fn := 42, rid := 3, nv := 5, tm := [(6, .int .i64 (.var 8)), (5, .slice 2 (.var 9) (.var 11))], hp := [(0, .abs 7), (2, .row .i64 3 10)], reb := [(2, 0)], inv := qChainInv, mu := fun env => (gI env 3 - gI env 9).toNat }
def cxKQ (P : Program) (l : LoopS U) : Cx U := { cx P ctsKQ with loops := [l] }
end Go.Proofs.Ytdabdbbgaekmdaa
