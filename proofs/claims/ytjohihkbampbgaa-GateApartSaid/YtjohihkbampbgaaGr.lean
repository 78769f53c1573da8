/- Passes that follow each other: contracts. -/
import Derived.Test.YtjohihkbampbgaaGsV
import Derived.Test.YtjohihkbampbgaaGl
namespace Go.Proofs.Ytjohihkbampbgaa
set_option linter.unusedVariables false
set_option linter.unusedSimpArgs false
set_option linter.unusedSectionVars false
open Go

def ctsL : List (Ctr U) := ctsH ++ [cKnown, cStepP, cErrP, cNewP, cLast1, cBegins]
theorem hctsL : ∀ (ci : Nat) (c : Ctr U), ctsL[ci]? = some c → c.Holds objs Try.prog := by
  intro ci c h
  by_cases hlt : ci < 14
  · exact hctsH ci c (by rw [← h, ctsL, List.getElem?_append_left (by exact hlt)])
  · rw [ctsL, List.getElem?_append_right (by show 14 ≤ ci; omega)] at h
    match e : ci - ctsH.length, h with
    | 0, h => cases h; exact hKnown
    | 1, h => cases h; exact hStepP
    | 2, h => cases h; exact hErrP
    | 3, h => cases h; exact hNewP
    | 4, h => cases h; exact hLast1
    | 5, h => cases h; exact hBegins
    | n + 6, h => cases h
def wantKs : List (Option IntKind) := [some .i64, some .i64, some .i64]
def cRises : Ctr U :=
  { fn := 7, nin := 3, args := [.slice 0 (.var 1) (.var 2)], heap := [.ro wantKs 0]
    pre := fun ins => ∃ g k c, ins = [.f g k, .i k, .i c], nout := 1, out := fun _ => [.b true], ret := .bool (.var 3), post := [.ro wantKs 0] }
def risesInv (env : List (EV U)) : Prop := ∃ g k c x4 x5 x6 M a0 a1 i, env = [.f g k, .i k, .i c, .b true, x4, x5, x6, .u (.mem M), .i a0, .i a1, .i i] ∧ 0 ≤ i ∧ i ≤ k ∧ k ≤ 60 ∧ M.W.length = 5 ∧ M.W[1]?.getD 0 = a0 + 1 ∧ M.W[2]?.getD 0 = a1 + 1 ∧ -1 ≤ a0 ∧ a0 < 500 ∧ -1 ≤ a1 ∧ a1 < 500
def lRises : LoopS U :=
  { fn := 7, rid := 11, nv := 4, tm := [(8, .int .i64 (.var 10))], hp := [(1, .abs 7), (3, .cells [.int .i64 (.var 8), .int .i64 (.var 9)] 3)], reb := []
    inv := risesInv, mu := fun env => (gI env 1 - gI env 10).toNat }
def risesInv2 (env : List (EV U)) : Prop := ∃ g k c x4 x5 x6 M a0 a1 i t ap now M' P' made n, env = [.f g k, .i k, .i c, .b true, x4, x5, x6, .u (.mem M), .i a0, .i a1, .i i, .u (.pass (newP 1 3 t ap now)), .i t, .i ap, .i now, .u (.mem M'), .u (.pass P'), .i made, .i n] ∧ 0 ≤ i ∧ i < k ∧ k ≤ 60 ∧ M.W.length = 5 ∧ M.W[1]?.getD 0 = a0 + 1 ∧ M.W[2]?.getD 0 = a1 + 1 ∧ -1 ≤ a0 ∧ a0 < 500 ∧ -1 ≤ a1 ∧ a1 < 500 ∧ 0 ≤ t ∧ t < 2 ∧ 0 ≤ ap ∧ ap < 50 ∧ 0 ≤ now ∧ now < 500 ∧
  (n = 0 ∧ M' = M ∧ P' = newP 1 3 t ap now ∨ n = 1 ∧ M' = M.load (1 + t) ∧ P' = ⟨2, 1 + t, ap, now, (M.load (1 + t)).n, 0⟩ ∧ soonB (M.load (1 + t)).n now ap = false)
def lRises2 : LoopS U :=
  { fn := 7, rid := 16, nv := 4, tm := [(10, .int .i64 (.var 18))], hp := [(1, .abs 15), (5, .abs 16), (4, coreT (.hnd 5) 12 (.var 17) (.lit 0))], reb := []
    inv := risesInv2, mu := fun env => (3 - gI env 18).toNat }
def cxR (P : Program) : Cx U := { cx P ctsL with loops := [lRises, lRises2] }
end Go.Proofs.Ytjohihkbampbgaa
