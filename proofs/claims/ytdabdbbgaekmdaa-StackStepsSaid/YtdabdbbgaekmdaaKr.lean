/- The document's stacks beside its memory as open blocks: contracts. -/
import Derived.Test.YtdabdbbgaekmdaaRrV
namespace Go.Proofs.Ytdabdbbgaekmdaa
set_option linter.unusedVariables false
set_option linter.unusedSimpArgs false
set_option linter.unusedSectionVars false
open Go

def stk8 : SV := .agg [.int .i64 (.var 8), .int .i64 (.var 9), .int .i64 (.var 10)]
def cRSFill : Ctr U :=
  { fn := 85, nin := 11, args := [stk8, .ptr 0 0], heap := [rmC 0 1, rmW 0]
    pre := fun ins => ∃ M : MemSt, ∃ t l s, ins = rmR M ++ [.i t, .i l, .i s] ∧ M.fine, nout := 8
    out := fun ins => match ins with | [.l W, _, .i k, .i a, .i o, .i n, .b h, .i N, .i t, .i l, .i s] => rmR (fillSt ⟨W, k, a, o, n, h, N⟩ t l s) | _ => []
    ret := .tuple [], post := [rmC 11 1, rmW 11] }
def cRChain : Ctr U :=
  { fn := 42, nin := 11, args := [stk8, .ptr 0 0], heap := [rmC 0 1, rmW 0]
    pre := fun ins => ∃ M : MemSt, ∃ t l s, ins = rmR M ++ [.i t, .i l, .i s] ∧ M.fine ∧ s ≤ 4096, nout := 11
    out := fun _ => []
    many := some fun c ins => match ins with | [.l W, _, .i k, .i a, .i o, .i n, .b h, .i N, .i t, .i l, .i s] => rmR ⟨W, k, a, o, n, h, N⟩ ++ [.l (chainS ⟨W, k, a, o, n, h, N⟩ t l s ++ c), .i (chainS ⟨W, k, a, o, n, h, N⟩ t l s).length, .i (((chainS ⟨W, k, a, o, n, h, N⟩ t l s).length + c.length : Nat) : Int)] | _ => []
    ret := .slice 2 (.var 20) (.var 21), post := [rmC 11 1, rmW 11, .row .i64 3 19] }
def cRPoStep : Ctr U :=
  { fn := 90, nin := 9, args := [.hnd 0, .ptr 1 0], heap := [.abs 0, rmC 1 2, rmW 1]
    pre := fun ins => ∃ P M, ins = .u (.rpop P) :: rmR M ∧ P.ok ∧ M.fine, nout := 10
    out := fun ins => match ins with | [.u (.rpop P), .l W, _, .i k, .i a, .i o, .i n, .b h, .i N] => .u (.rpop (stepPo P ⟨W, k, a, o, n, h, N⟩).1) :: (rmR (stepPo P ⟨W, k, a, o, n, h, N⟩).2 ++ [.b ((stepPo P ⟨W, k, a, o, n, h, N⟩).1.line == 9)]) | _ => []
    ret := .bool (.var 18), post := [.abs 9, rmC 10 2, rmW 10] }
def cRPuStep : Ctr U :=
  { fn := 92, nin := 9, args := [.hnd 0, .ptr 1 0], heap := [.abs 0, rmC 1 2, rmW 1]
    pre := fun ins => ∃ P M, ins = .u (.rpush P) :: rmR M ∧ P.ok ∧ M.fine, nout := 10
    out := fun ins => match ins with | [.u (.rpush P), .l W, _, .i k, .i a, .i o, .i n, .b h, .i N] => .u (.rpush (stepPu P ⟨W, k, a, o, n, h, N⟩).1) :: (rmR (stepPu P ⟨W, k, a, o, n, h, N⟩).2 ++ [.b ((stepPu P ⟨W, k, a, o, n, h, N⟩).1.line == 9)]) | _ => []
    ret := .bool (.var 18), post := [.abs 9, rmC 10 2, rmW 10] }
def cRAlStep : Ctr U :=
  { fn := 94, nin := 9, args := [.hnd 0, .ptr 1 0], heap := [.abs 0, rmC 1 2, rmW 1]
    pre := fun ins => ∃ P M, ins = .u (.rall P) :: rmR M ∧ P.ok ∧ M.fine, nout := 10
    out := fun ins => match ins with | [.u (.rall P), .l W, _, .i k, .i a, .i o, .i n, .b h, .i N] => .u (.rall (stepAl P ⟨W, k, a, o, n, h, N⟩).1) :: (rmR (stepAl P ⟨W, k, a, o, n, h, N⟩).2 ++ [.b ((stepAl P ⟨W, k, a, o, n, h, N⟩).1.line == 9)]) | _ => []
    ret := .bool (.var 18), post := [.abs 9, rmC 10 2, rmW 10] }
def ctsKR2 : List (Ctr U) := [cRLoad, cRStore, cRCAS, cRAt, cQIdx, cQTop]
/-! ### loops -/
def rsFillInv (env : List (EV U)) : Prop := ∃ M : MemSt, ∃ (a b n : Int) (x0 x1 x2 x3 x4 x5 x6 x7 : EV U) (i : Int), env = rmR M ++ [.i a, .i b, .i n, x0, x1, x2, x3, x4, x5, x6, x7] ++ rmR (fillK M a b n i.toNat) ++ [.i i] ∧ 0 ≤ i ∧ i + 1 ≤ n ∧ n ≤ 4096 ∧ M.fine
def lRSFill : LoopS U :=
  { fn := 85, rid := 4, nv := 9, tm := [(4, .int .i64 (.var 27))], hp := [(0, rmC 19 1), (1, rmW 19)], reb := [], inv := rsFillInv, mu := fun env => (gI env 10 - gI env 27).toNat }
def rChainInv (env : List (EV U)) : Prop := ∃ M : MemSt, ∃ (a b n : Int) (x0 x1 x2 x3 x4 x5 x6 x7 x8 x9 : EV U) (i k : Int) (xs : List Int) (c : Int), env = rmR M ++ [.i a, .i b, .i n, x0, x1, x2, x3, x4, x5, x6, x7, x8, x9] ++ rmR M ++ [.i i, .i k, .l xs, .i c] ∧ M.fine ∧ n ≤ 4096 ∧ 0 ≤ k ∧ k ≤ n.toNat ∧ c = xs.length ∧ k ≤ c ∧ xs.take k.toNat ++ chainL M b n (n.toNat - k.toNat) i = chainS M a b n ∧ i ≤ 65534
def lRChain : LoopS U :=
  { fn := 42, rid := 3, nv := 12, tm := [(6, .int .i64 (.var 29)), (5, .slice 3 (.var 30) (.var 32))], hp := [(0, rmC 21 1), (1, rmW 21), (3, .row .i64 3 31)], reb := [(3, 0)], inv := rChainInv, mu := fun env => (gI env 10 - gI env 30).toNat }
def cxKR2 (P : Program) (l : LoopS U) : Cx U := { cx P ctsKR2 with loops := [l] }
end Go.Proofs.Ytdabdbbgaekmdaa
