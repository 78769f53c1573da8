/- Gates: contracts. -/
import Derived.Test.YtjohihkbampbgaaCwV
namespace Go.Proofs.Ytjohihkbampbgaa
set_option linter.unusedVariables false
set_option linter.unusedSimpArgs false
set_option linter.unusedSectionVars false
open Go

def fillM (M : MemSt) (first : Int) : Nat → MemSt
  | 0 => M
  | k + 1 => (fillM M first k).store (IntKind.i64.wrap (first + k)) 0
def ctsM : List (Ctr U) := [cLoad, cStore, cCAS, cNew, cLast, cCount, cWords, cSameWords, cPick]
theorem hctsM : ∀ (ci : Nat) (c : Ctr U), ctsM[ci]? = some c → c.Holds objs Try.prog := by
  intro ci c h
  match ci, h with
  | 0, h => cases h; exact hLoad
  | 1, h => cases h; exact hStore
  | 2, h => cases h; exact hCAS
  | 3, h => cases h; exact hNew
  | 4, h => cases h; exact hLast
  | 5, h => cases h; exact hCount
  | 6, h => cases h; exact hWords
  | 7, h => cases h; exact hSameWords
  | 8, h => cases h; exact hPick
  | n + 9, h => cases h
def cFill : Ctr U :=
  { fn := 23, nin := 3, args := [.agg [.int .i64 (.var 1), .int .i64 (.var 2)], .hnd 0], heap := [.abs 0]
    pre := fun ins => ∃ M f n, ins = [.u (.mem M), .i f, .i n], nout := 1
    out := fun ins => match ins with | [.u (.mem M), .i f, .i n] => [.u (.mem (if 1 ≤ n ∧ n ≤ 32 then fillM M f n.toNat else M))] | _ => []
    ret := .tuple [], post := [.abs 3] }
def fillInv (env : List (EV U)) : Prop := ∃ M f n L i, env = [.u (.mem M), .i f, .i n, L, .u (.mem (fillM M f i.toNat)), .i i] ∧ 0 ≤ i ∧ i ≤ n ∧ 1 ≤ n ∧ n ≤ 32
def lFill : LoopS U :=
  { fn := 120, rid := 1, nv := 2, tm := [(6, .int .i64 (.var 5))], hp := [(0, .abs 4)], reb := []
    inv := fillInv, mu := fun env => (gI env 2 - gI env 5).toNat }
def cxF (P : Program) : Cx U := { cx P ctsM with loops := [lFill] }
end Go.Proofs.Ytjohihkbampbgaa
