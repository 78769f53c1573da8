/- Lists of numbers: contracts. -/
import Derived.Test.YtbmbiiiacajolaaGreatMf
namespace Go.Proofs.YtbmbiiiacajolaaGreat
set_option linter.unusedVariables false
set_option linter.unusedSimpArgs false
set_option linter.unusedSectionVars false
open Go

def cSameInts : Ctr U :=
  { fn := 71, nin := 6, args := [.slice 0 (.var 2) (.var 3), .slice 1 (.var 4) (.var 5)], heap := [.row .i64 3 0, .row .i64 3 1]
    pre := fun ins => ∃ xs ys a b c d, ins = [.l xs, .l ys, .i a, .i c, .i b, .i d] ∧ 0 ≤ a ∧ a ≤ xs.length ∧ 0 ≤ b ∧ b ≤ ys.length ∧ a < 2 ^ 62, nout := 1
    out := fun ins => match ins with | [.l xs, .l ys, .i a, _, .i b, _] => [.b (decide (xs.take a.toNat = ys.take b.toNat))] | _ => []
    ret := .bool (.var 6), post := [.row .i64 3 0, .row .i64 3 1] }
def lSameInts : LoopS U :=
  { fn := 71, rid := 3, nv := 2, tm := [(5, .bool (.var 7)), (6, .int .i64 (.var 6))], hp := [], reb := []
    inv := fun env => ∃ k b, env.drop 6 = [.i k, .b b] ∧ 0 ≤ k ∧ k ≤ gI env 2 ∧ (b = true → gI env 2 = gI env 4 ∧ (gL env 0).take k.toNat = (gL env 1).take k.toNat) ∧ (b = false → (gL env 0).take (gI env 2).toNat ≠ (gL env 1).take (gI env 4).toNat)
    mu := fun env => (gI env 2 - gI env 6).toNat + if gB env 7 then 1 else 0 }
def cOverInts : Ctr U :=
  { fn := 79, nin := 3, args := [.slice 0 (.var 1) (.var 2)], heap := [.row .i64 3 0]
    pre := fun ins => ∃ xs a c, ins = [.l xs, .i a, .i c] ∧ 0 ≤ a ∧ a ≤ xs.length ∧ a < 2 ^ 62, nout := 1
    out := fun ins => match ins with | [.l xs, .i a, _] => [.l (List.replicate a.toNat (-77) ++ xs.drop a.toNat)] | _ => []
    ret := .tuple [], post := [.row .i64 3 3] }
def overInv (env : List (EV U)) : Prop := ∃ xs a c i, env = [.l xs, .i a, .i c, .l (List.replicate i.toNat (-77) ++ xs.drop i.toNat), .i i] ∧ 0 ≤ i ∧ i ≤ a ∧ a ≤ xs.length ∧ a < 2 ^ 62
def lOverInts : LoopS U :=
  { fn := 79, rid := 1, nv := 2, tm := [(2, .int .i64 (.var 4))], hp := [(0, .row .i64 3 3)], reb := [], inv := overInv, mu := fun env => (gI env 1 - gI env 4).toNat }
def cxEO (P : Program) (l : List (LoopS U)) : Cx U := { cx P [] with loops := l }
end Go.Proofs.YtbmbiiiacajolaaGreat
