/- What is linked on a level: contracts. -/
import Derived.Test.YtbmbiiiacajolaaTi
namespace Go.Proofs.Ytbmbiiiacajolaa
set_option linter.unusedVariables false
set_option linter.unusedSimpArgs false
set_option linter.unusedSectionVars false
open Go

/-- a word read as an index; -1: none -/
def idx0 (w : Int) : Int := binDen .sub .i64 (IntKind.i64.wrap (binDen .and .u64 (binDen .shr .u64 w 0) 65535)) 1
def idxE (w : Int) : Int := if idx0 w ≥ 3 then -1 else idx0 w
/-- the cell of what is behind a node, or the head, on a level -/
def nextE (i l : Int) : Int := if i = -1 then 14 + l else 20 + 6 * i + l
def cIdxT : Ctr U :=
  { fn := 70, nin := 1, args := [chTw, .int .u64 (.var 0)], heap := []
    pre := fun ins => ∃ w, ins = [.i w], nout := 1, out := fun ins => match ins with | [.i w] => [.i (idxE w)] | _ => [], ret := .int .i64 (.var 1), post := [] }
def cNextT : Ctr U :=
  { fn := 16, nin := 2, args := [chTw, .int .i64 (.var 0), .int .i64 (.var 1)], heap := []
    pre := fun ins => ∃ i l, ins = [.i i, .i l] ∧ -1 ≤ i ∧ i ≤ 2 ∧ 0 ≤ l ∧ l ≤ 1, nout := 1, out := fun ins => match ins with | [.i i, .i l] => [.i (nextE i l)] | _ => [], ret := .int .i64 (.var 2), post := [] }
def atW (W : List Int) (k : Int) : Int := if 0 ≤ k ∧ k < 34 then W.getD k.toNat 0 else 0
def levelE (W : List Int) (l : Int) : Nat → Int → List Int
  | 0, _ => []
  | n + 1, i => if i < 0 then [] else i :: levelE W l n (idxE (atW W (nextE i l)))
def levelL (W : List Int) (l : Int) : List Int := levelE W l 3 (idxE (atW W (nextE (-1) l)))
def markedE (w : Int) : Bool := cmpDen .eql (binDen .shr .u64 w 63) 1
def liveE (W : List Int) : Nat → Int → List Int
  | 0, _ => []
  | n + 1, i => if i < 0 then [] else (if markedE (atW W (nextE i 0)) then [] else [i]) ++ liveE W n (idxE (atW W (nextE i 0)))
def liveL (W : List Int) : List Int := liveE W 3 (idxE (atW W (nextE (-1) 0)))
def cLevelT : Ctr U :=
  { fn := 28, nin := 2, args := [chTw, .int .i64 (.var 1), .hnd 0], heap := [.abs 0]
    pre := fun ins => ∃ M l, ins = [.u (.mem M), .i l] ∧ M.W.length = 34 ∧ 0 ≤ l ∧ l ≤ 1, nout := 4, out := fun _ => []
    many := some fun c ins => match ins with | [.u (.mem M), .i l] => [.u (.mem M), .l (levelL M.W l ++ c), .i (levelL M.W l).length, .i (((levelL M.W l).length + c.length : Nat) : Int)] | _ => []
    ret := .slice 1 (.var 4) (.var 5), post := [.abs 2, .row .i64 3 3] }
def cLiveT : Ctr U :=
  { fn := 29, nin := 1, args := [chTw, .hnd 0], heap := [.abs 0]
    pre := fun ins => ∃ M, ins = [.u (.mem M)] ∧ M.W.length = 34, nout := 4, out := fun _ => []
    many := some fun c ins => match ins with | [.u (.mem M)] => [.u (.mem M), .l (liveL M.W ++ c), .i (liveL M.W).length, .i (((liveL M.W).length + c.length : Nat) : Int)] | _ => []
    ret := .slice 1 (.var 3) (.var 4), post := [.abs 1, .row .i64 3 2] }
def cMarkedT : Ctr U :=
  { fn := 76, nin := 1, args := [.int .u64 (.var 0)], heap := []
    pre := fun ins => ∃ w, ins = [.i w], nout := 1, out := fun ins => match ins with | [.i w] => [.b (markedE w)] | _ => [], ret := .bool (.var 1), post := [] }
def cAmongT : Ctr U :=
  { fn := 56, nin := 4, args := [.slice 0 (.var 1) (.var 2), .int .i64 (.var 3)], heap := [.row .i64 3 0]
    pre := fun ins => ∃ xs a c n, ins = [.l xs, .i a, .i c, .i n] ∧ 0 ≤ a ∧ a ≤ xs.length ∧ a < 2 ^ 60, nout := 1
    out := fun ins => match ins with | [.l xs, .i a, _, .i n] => [.b (decide (n ∈ xs.take a.toNat))] | _ => []
    ret := .bool (.var 4), post := [.row .i64 3 0] }
def lAmongT : LoopS U :=
  { fn := 56, rid := 2, nv := 1, tm := [(5, .int .i64 (.var 4))], hp := [], reb := []
    inv := fun env => ∃ xs a c n k, env = [.l xs, .i a, .i c, .i n, .i k] ∧ 0 ≤ a ∧ a ≤ xs.length ∧ a < 2 ^ 60 ∧ 0 ≤ k ∧ k ≤ a ∧ n ∉ xs.take k.toNat
    mu := fun env => (gI env 1 - gI env 4).toNat }
def cxTa (P : Program) : Cx U := { cx P [] with join := true, loops := [lAmongT] }
def ctsTo : List (Ctr U) := [cWords, cMemAt, cIdxT, cNextT, cMarkedT]
def cxTo (P : Program) : Cx U := { cx P ctsTo with join := true }
end Go.Proofs.Ytbmbiiiacajolaa
