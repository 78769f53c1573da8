/- Stacks: the law on operations that are none: its contract. -/
import Derived.Test.YtdabdbbgaekmdaaKb
namespace Go.Proofs.Ytdabdbbgaekmdaa
set_option linter.unusedVariables false
set_option linter.unusedSimpArgs false
set_option linter.unusedSectionVars false
open Go

def cSFillNil : Ctr U :=
  { fn := 22, nin := 3, args := [stk3, .nilp], heap := []
    pre := fun ins => ∃ a b n, ins = [.i a, .i b, .i n], nout := 0, out := fun _ => [], ret := .tuple [], post := [] }
def sFillNilInv (env : List (EV U)) : Prop := ∃ a b n x0 x1 i, env = [.i a, .i b, .i n, x0, x1, .i i] ∧ 0 ≤ i ∧ i ≤ n ∧ 1 ≤ n ∧ n ≤ 4096
def lSFillNil : LoopS U :=
  { fn := 22, rid := 4, nv := 1, tm := [(16, .int .i64 (.var 5))], hp := [], reb := [], inv := sFillNilInv, mu := fun env => (gI env 2 - gI env 5).toNat }
def cSNone : Ctr U :=
  { fn := 3, nin := 4, args := [stk3, .int .i64 (.var 3)], heap := []
    pre := fun ins => ∃ a b n i, ins = [.i a, .i b, .i n, .i i], nout := 1, out := fun _ => [.b true], ret := .bool (.var 4), post := [] }
def ctsSN : List (Ctr U) := ctsM ++ [cSAwake, cSFillNil]
end Go.Proofs.Ytdabdbbgaekmdaa
