/- Passes apart: may a Pass have ended so? Contracts, one for each core of three. -/
import Derived.Test.YtjohihkbampbgaaGw
import Derived.Test.YtjohihkbampbgaaSy
namespace Go.Proofs.Ytjohihkbampbgaa
set_option linter.unusedVariables false
set_option linter.unusedSimpArgs false
set_option linter.unusedSectionVars false
open Go

def opA : Option PassSt → U | none => .passNil | some P => .pass P
def soonE (a n was : Int) : Bool := decide (0 ≤ was ∧ IntKind.i64.wrap (n - was) < a ∨ 0 ≤ was ∧ n < was)
def endsB (P : PassSt) (a n was at_ : Int) : Bool :=
  if errP P = 0 then !soonE a n was && decide (at_ = n) else if errP P = 13 then soonE a n was && decide (at_ = was) else false
def coresH : HE := .cells [.hnd 1, .int .i64 (.var 3), .int .i64 (.var 4), .int .i64 (.var 5), .int .i64 (.var 6), .int .i64 (.var 7), .hnd 2, .int .i64 (.var 8), .int .i64 (.var 9), .int .i64 (.var 10), .int .i64 (.var 11), .int .i64 (.var 12), .hnd 3, .int .i64 (.var 13), .int .i64 (.var 14), .int .i64 (.var 15), .int .i64 (.var 16), .int .i64 (.var 17)] 58
def cEnds0 : Ctr U :=
  { fn := 32, nin := 20, args := [.ptr 0 0, .int .i64 (.var 18), .int .i64 (.var 19)], heap := [coresH, .abs 0, .abs 1, .abs 2]
    pre := fun ins => ∃ P u1 u2 t0 a0 n0 m0 q0 t1 a1 n1 m1 q1 t2 a2 n2 m2 q2 w v, ins = [.u (.pass P), u1, u2, .i t0, .i a0, .i n0, .i m0, .i q0, .i t1, .i a1, .i n1, .i m1, .i q1, .i t2, .i a2, .i n2, .i m2, .i q2, .i w, .i v] ∧ P.ok, nout := 2
    out := fun ins => match ins with | [.u (.pass P), u1, u2, _, .i a0, .i n0, _, _, _, _, _, _, _, _, _, _, _, _, .i w, .i v] => [.u (.pass P), .b (endsB P a0 n0 w v)] | _ => []
    ret := .bool (.var 21), post := [coresH, .abs 20, .abs 1, .abs 2] }
def cEnds1 : Ctr U :=
  { fn := 32, nin := 20, args := [.ptr 0 6, .int .i64 (.var 18), .int .i64 (.var 19)], heap := [coresH, .abs 0, .abs 1, .abs 2]
    pre := fun ins => ∃ u0 P u2 t0 a0 n0 m0 q0 t1 a1 n1 m1 q1 t2 a2 n2 m2 q2 w v, ins = [u0, .u (.pass P), u2, .i t0, .i a0, .i n0, .i m0, .i q0, .i t1, .i a1, .i n1, .i m1, .i q1, .i t2, .i a2, .i n2, .i m2, .i q2, .i w, .i v] ∧ P.ok, nout := 2
    out := fun ins => match ins with | [_, .u (.pass P), _, _, _, _, _, _, _, .i a0, .i n0, _, _, _, _, _, _, _, .i w, .i v] => [.u (.pass P), .b (endsB P a0 n0 w v)] | _ => []
    ret := .bool (.var 21), post := [coresH, .abs 0, .abs 20, .abs 2] }
def cEnds2 : Ctr U :=
  { fn := 32, nin := 20, args := [.ptr 0 12, .int .i64 (.var 18), .int .i64 (.var 19)], heap := [coresH, .abs 0, .abs 1, .abs 2]
    pre := fun ins => ∃ u0 u1 P t0 a0 n0 m0 q0 t1 a1 n1 m1 q1 t2 a2 n2 m2 q2 w v, ins = [u0, u1, .u (.pass P), .i t0, .i a0, .i n0, .i m0, .i q0, .i t1, .i a1, .i n1, .i m1, .i q1, .i t2, .i a2, .i n2, .i m2, .i q2, .i w, .i v] ∧ P.ok, nout := 2
    out := fun ins => match ins with | [_, _, .u (.pass P), _, _, _, _, _, _, _, _, _, _, _, .i a0, .i n0, _, _, .i w, .i v] => [.u (.pass P), .b (endsB P a0 n0 w v)] | _ => []
    ret := .bool (.var 21), post := [coresH, .abs 0, .abs 1, .abs 20] }
def ctsE : List (Ctr U) := ctsH ++ [cKnown, cStepP, cErrP, cNewP, cLast1]
theorem hctsE : ∀ (ci : Nat) (c : Ctr U), ctsE[ci]? = some c → c.Holds objs Try.prog := by
  intro ci c h
  by_cases hlt : ci < 14
  · exact hctsH ci c (by rw [← h, ctsE, List.getElem?_append_left (by exact hlt)])
  · rw [ctsE, List.getElem?_append_right (by show 14 ≤ ci; omega)] at h
    match e : ci - ctsH.length, h with
    | 0, h => cases h; exact hKnown
    | 1, h => cases h; exact hStepP
    | 2, h => cases h; exact hErrP
    | 3, h => cases h; exact hNewP
    | 4, h => cases h; exact hLast1
    | n + 5, h => cases h
def cxE (P : Program) : Cx U := cx P ctsE
end Go.Proofs.Ytjohihkbampbgaa
