/- The document's epochs: what each function is said to do. -/
import Derived.Test.YtjohihkbampbgaaEcV
import Derived.Test.YtjohihkbampbgaaRmV
namespace Go.Proofs.Ytjohihkbampbgaa
set_option linter.unusedVariables false
set_option linter.unusedSimpArgs false
set_option linter.unusedSectionVars false
open Go

/-- a memory as it may be -/
def MemSt.fine (M : MemSt) : Prop := M.W.length ≤ 4096 ∧ ∀ x ∈ M.W, isW x
def cQEFits : Ctr U :=
  { fn := 68, nin := 4, args := [.agg [.int .i64 (.var 0), .int .i64 (.var 1), .int .i64 (.var 2)], .int .i64 (.var 3)], heap := []
    pre := fun ins => ∃ a b n s, ins = [.i a, .i b, .i n, .i s], nout := 1
    out := fun ins => match ins with | [.i a, .i b, .i n, .i s] => [.i (fitsE a b n s)] | _ => []
    ret := .int .i64 (.var 4), post := [] }
def cQEFill : Ctr U :=
  { fn := 106, nin := 4, args := [.agg [.int .i64 (.var 1), .int .i64 (.var 2), .int .i64 (.var 3)], .hnd 0], heap := [.abs 0]
    pre := fun ins => ∃ M a b n, ins = [.u (.rmem M), .i a, .i b, .i n] ∧ M.fine, nout := 1
    out := fun ins => match ins with | [.u (.rmem M), .i a, .i b, .i n] => [.u (.rmem (fillE M a b n))] | _ => []
    ret := .tuple [], post := [.abs 4] }
def cQENow : Ctr U :=
  { fn := 74, nin := 4, args := [.agg [.int .i64 (.var 1), .int .i64 (.var 2), .int .i64 (.var 3)], .hnd 0], heap := [.abs 0]
    pre := fun ins => ∃ M a b n, ins = [.u (.rmem M), .i a, .i b, .i n] ∧ M.fine, nout := 2
    out := fun ins => match ins with | [.u (.rmem M), .i a, .i b, .i n] => [.u (.rmem M), .i (u32 (M.at0 a))] | _ => []
    ret := .int .i64 (.var 5), post := [.abs 4] }
def cQEPinned : Ctr U :=
  { fn := 75, nin := 4, args := [.agg [.int .i64 (.var 1), .int .i64 (.var 2), .int .i64 (.var 3)], .hnd 0], heap := [.abs 0]
    pre := fun ins => ∃ M a b n, ins = [.u (.rmem M), .i a, .i b, .i n] ∧ M.fine, nout := 4
    out := fun _ => []
    many := some fun c ins => match ins with | [.u (.rmem M), .i a, .i b, .i n] => [.u (.rmem M), .l (pinnedL M b (manyE n) ++ c), .i (manyE n), .i ((manyE n + c.length : Nat) : Int)] | _ => []
    ret := .slice 1 (.var 6) (.var 7), post := [.abs 4, .row .i64 3 5] }
def cQNewPin : Ctr U :=
  { fn := 107, nin := 4, args := [.agg [.int .i64 (.var 0), .int .i64 (.var 1), .int .i64 (.var 2)], .int .i64 (.var 3)], heap := []
    pre := fun ins => ∃ a b n c, ins = [.i a, .i b, .i n, .i c], nout := 1
    out := fun ins => match ins with | [.i a, .i b, .i n, .i c] => [.u (.repin (newEP a b n c))] | _ => []
    ret := .hnd 0, post := [.abs 4] }
def cQPinStep : Ctr U :=
  { fn := 110, nin := 2, args := [.hnd 0, .hnd 1], heap := [.abs 0, .abs 1]
    pre := fun ins => ∃ P M, ins = [.u (.repin P), .u (.rmem M)] ∧ P.ok ∧ M.fine, nout := 3
    out := fun ins => match ins with | [.u (.repin P), .u (.rmem M)] => [.u (.repin (stepEP P M).1), .u (.rmem (stepEP P M).2), .b ((stepEP P M).1.line == -1)] | _ => []
    ret := .bool (.var 4), post := [.abs 2, .abs 3] }
def cQPinAt : Ctr U :=
  { fn := 111, nin := 1, args := [.hnd 0], heap := [.abs 0]
    pre := fun ins => ∃ P, ins = [.u (.repin P)] ∧ P.ok, nout := 3
    out := fun ins => match ins with | [.u (.repin P)] => [.u (.repin P), .i (atEP P).1, .i (atEP P).2] | _ => []
    ret := .tuple [.int .i64 (.var 2), .int .i64 (.var 3)], post := [.abs 1] }
def cQNewUnp : Ctr U :=
  { fn := 108, nin := 4, args := [.agg [.int .i64 (.var 0), .int .i64 (.var 1), .int .i64 (.var 2)], .int .i64 (.var 3)], heap := []
    pre := fun ins => ∃ a b n c, ins = [.i a, .i b, .i n, .i c], nout := 1
    out := fun ins => match ins with | [.i a, .i b, .i n, .i c] => [.u (.reunp (newEU b n c))] | _ => []
    ret := .hnd 0, post := [.abs 4] }
def cQUnpStep : Ctr U :=
  { fn := 112, nin := 2, args := [.hnd 0, .hnd 1], heap := [.abs 0, .abs 1]
    pre := fun ins => ∃ P M, ins = [.u (.reunp P), .u (.rmem M)] ∧ P.ok ∧ M.fine, nout := 3
    out := fun ins => match ins with | [.u (.reunp P), .u (.rmem M)] => [.u (.reunp (stepEU P M).1), .u (.rmem (stepEU P M).2), .b true] | _ => []
    ret := .bool (.var 4), post := [.abs 2, .abs 3] }
def cQUnpErr : Ctr U :=
  { fn := 113, nin := 1, args := [.hnd 0], heap := [.abs 0]
    pre := fun ins => ∃ P, ins = [.u (.reunp P)] ∧ P.ok, nout := 2
    out := fun ins => match ins with | [.u (.reunp P)] => [.u (.reunp P), .i (errEU P)] | _ => []
    ret := .int .i64 (.var 2), post := [.abs 1] }
def cQNewAdv : Ctr U :=
  { fn := 109, nin := 5, args := [.agg [.int .i64 (.var 0), .int .i64 (.var 1), .int .i64 (.var 2)], .int .i64 (.var 3), .int .i64 (.var 4)], heap := []
    pre := fun ins => ∃ a b n c p, ins = [.i a, .i b, .i n, .i c, .i p], nout := 1
    out := fun ins => match ins with | [.i a, .i b, .i n, .i c, .i p] => [.u (.readv (newEA a b n c p))] | _ => []
    ret := .hnd 0, post := [.abs 5] }
def cQAdvStep : Ctr U :=
  { fn := 114, nin := 2, args := [.hnd 0, .hnd 1], heap := [.abs 0, .abs 1]
    pre := fun ins => ∃ P M, ins = [.u (.readv P), .u (.rmem M)] ∧ P.ok ∧ M.fine, nout := 3
    out := fun ins => match ins with | [.u (.readv P), .u (.rmem M)] => [.u (.readv (stepEA P M).1), .u (.rmem (stepEA P M).2), .b ((stepEA P M).1.line == -1)] | _ => []
    ret := .bool (.var 4), post := [.abs 2, .abs 3] }
def cQAdvErr : Ctr U :=
  { fn := 115, nin := 1, args := [.hnd 0], heap := [.abs 0]
    pre := fun ins => ∃ P, ins = [.u (.readv P)] ∧ P.ok, nout := 2
    out := fun ins => match ins with | [.u (.readv P)] => [.u (.readv P), .i (errEA P)] | _ => []
    ret := .int .i64 (.var 2), post := [.abs 1] }
def qeFillInv (env : List (EV U)) : Prop := ∃ M a b n x0 i, env = [.u (.rmem M), .i a, .i b, .i n, x0, .u (.rmem (fillM (M.store a 0) b i.toNat)), .i i] ∧ 0 ≤ i ∧ i ≤ n ∧ 1 ≤ n ∧ n ≤ 64 ∧ M.fine
def lQEFill : LoopS U :=
  { fn := 106, rid := 4, nv := 2, tm := [(4, .int .i64 (.var 6))], hp := [(0, .abs 5)], reb := [], inv := qeFillInv, mu := fun env => (gI env 3 - gI env 6).toNat }
def qePinnedInv (env : List (EV U)) : Prop := ∃ M a b n i xs c, env = [.u (.rmem M), .i a, .i b, .i n, .u (.rmem M), .i i, .l xs, .i c] ∧ 0 ≤ i ∧ i ≤ manyE n ∧ c = xs.length ∧ i ≤ c ∧ xs.take i.toNat = pinnedL M b i.toNat ∧ M.fine
def lQEPinned : LoopS U :=
  { fn := 75, rid := 3, nv := 4, tm := [(6, .int .i64 (.var 5)), (5, .slice 2 (.var 5) (.var 7))], hp := [(0, .abs 4), (2, .row .i64 3 6)], reb := [(2, 0)], inv := qePinnedInv, mu := fun env => (gI env 3 - gI env 5).toNat }
def ctsQE : List (Ctr U) := [cQLoad, cQStore, cQCAS, cQAt]
def cxQE (P : Program) (l : LoopS U) : Cx U := { cx P ctsQE with loops := [l] }
theorem hctsQE : ∀ (ci : Nat) (c : Ctr U), ctsQE[ci]? = some c → c.Holds objs Try.prog := by
  intro ci c h
  match ci, h with
  | 0, h => cases h; exact hQLoad
  | 1, h => cases h; exact hQStore
  | 2, h => cases h; exact hQCAS
  | 3, h => cases h; exact hQAt
  | n + 4, h => cases h
end Go.Proofs.Ytjohihkbampbgaa
