/- Towers: places: contracts. -/
import Derived.Test.YtbmbiiiacajolaaGreatMf
namespace Go.Proofs.YtbmbiiiacajolaaGreat
set_option linter.unusedVariables false
set_option linter.unusedSimpArgs false
set_option linter.unusedSectionVars false
open Go

/-- a tower, field by field, from a number on -/
def twV (j : Nat) : SV := .agg [.int .i64 (.var j), .int .i64 (.var (j + 1)), .int .i64 (.var (j + 2)), .int .i64 (.var (j + 3)), .int .i64 (.var (j + 4)), .int .i64 (.var (j + 5)), .int .i64 (.var (j + 6)), .int .i64 (.var (j + 7)), .int .i64 (.var (j + 8)), .int .i64 (.var (j + 9)), .int .i64 (.var (j + 10)), .int .i64 (.var (j + 11)), .int .i64 (.var (j + 12))]
def okT (n h w s : Int) : Bool := decide (1 ≤ w ∧ w ≤ 4 ∧ 1 ≤ s ∧ s ≤ 128 ∧ 0 ≤ n ∧ n < 4096 ∧ 0 ≤ h ∧ h < 4096)
/-- which cell a part of a node is (n: nodes, h: heads, w: height, s: size) -/
def atT (n h w s i p : Int) : Int :=
  if okT n h w s = true ∧ -1 ≤ i ∧ i < s ∧ 0 ≤ p ∧ p < 4 + w ∧ (0 ≤ i ∨ 4 ≤ p) then (if i < 0 then h + p - 4 else n + i * (4 + w) + p) else -1
/-- whose a cell is -/
def whoT (n h w s c : Int) : Int × Int × Bool :=
  if okT n h w s = true then
    if n ≤ c ∧ c < n + s * (4 + w) then ((c - n) / (4 + w), (c - n) % (4 + w), true)
    else if h ≤ c ∧ c < h + w then (-1, c - h + 4, true) else (0, 0, false)
  else (0, 0, false)
def atOut (ins : List (EV U)) : List (EV U) := [.i (atT (gI ins 0) (gI ins 1) (gI ins 2) (gI ins 5) (gI ins 13) (gI ins 14))]
def whoOut (ins : List (EV U)) : List (EV U) := [.i (whoT (gI ins 0) (gI ins 1) (gI ins 2) (gI ins 5) (gI ins 13)).1, .i (whoT (gI ins 0) (gI ins 1) (gI ins 2) (gI ins 5) (gI ins 13)).2.1, .b (whoT (gI ins 0) (gI ins 1) (gI ins 2) (gI ins 5) (gI ins 13)).2.2]
def atPre (ins : List (EV U)) : Prop := ∃ a0 a1 a2 a3 a4 a5 a6 a7 a8 a9 a10 a11 a12 i p : Int, ins = [.i a0, .i a1, .i a2, .i a3, .i a4, .i a5, .i a6, .i a7, .i a8, .i a9, .i a10, .i a11, .i a12, .i i, .i p]
def whoPre (ins : List (EV U)) : Prop := ∃ a0 a1 a2 a3 a4 a5 a6 a7 a8 a9 a10 a11 a12 i : Int, ins = [.i a0, .i a1, .i a2, .i a3, .i a4, .i a5, .i a6, .i a7, .i a8, .i a9, .i a10, .i a11, .i a12, .i i]
def cAt : Ctr U := { fn := 58, nin := 15, args := [twV 0, .int .i64 (.var 13), .int .i64 (.var 14)], heap := [], pre := atPre, nout := 1, out := atOut, ret := .int .i64 (.var 15), post := [] }
def cRAt : Ctr U := { fn := 66, nin := 15, args := [twV 0, .int .i64 (.var 13), .int .i64 (.var 14)], heap := [], pre := atPre, nout := 1, out := atOut, ret := .int .i64 (.var 15), post := [] }
end Go.Proofs.YtbmbiiiacajolaaGreat
