/- One Pass alone, of so many steps: contracts. -/
import Derived.Test.YtjohihkbampbgaaGcV
namespace Go.Proofs.Ytjohihkbampbgaa
set_option linter.unusedVariables false
set_option linter.unusedSimpArgs false
set_option linter.unusedSectionVars false
open Go

/-- is a time too soon behind what lies in a gate's cell? -/
def soonB (w now apart : Int) : Bool := !(w == 0) && (decide (now < IntKind.u64.wrap (w - 1)) || decide (IntKind.u64.wrap (now - IntKind.u64.wrap (w - 1)) < apart))
def pass2M (M : MemSt) (a n : Int) : MemSt := if soonB (M.load 3).n n a then M.load 3 else (M.load 3).cas 3 (M.load 3).n (IntKind.u64.wrap (n + 1))
def pass2B (M : MemSt) (a n : Int) : Bool := !soonB (M.load 3).n n a && ((M.load 3).cas 3 (M.load 3).n (IntKind.u64.wrap (n + 1))).h
def cPass1 : Ctr U :=
  { fn := 27, nin := 3, args := [.hnd 0, .int .i64 (.var 1), .int .i64 (.var 2), .int .i64 (.lit 1), .int .i64 (.lit 13)], heap := [.abs 0]
    pre := fun ins => ∃ M a n, ins = [.u (.mem M), .i a, .i n] ∧ 0 ≤ a ∧ a ≤ 1099511627776 ∧ 0 ≤ n ∧ n ≤ 1099511627776, nout := 2
    out := fun ins => match ins with | [.u (.mem M), .i a, .i n] => [.u (.mem (M.load 3)), .b (soonB (M.load 3).n n a)] | _ => []
    ret := .bool (.var 4), post := [.abs 3] }
def cPass2 : Ctr U :=
  { fn := 27, nin := 3, args := [.hnd 0, .int .i64 (.var 1), .int .i64 (.var 2), .int .i64 (.lit 2), .int .i64 (.lit 0)], heap := [.abs 0]
    pre := fun ins => ∃ M a n, ins = [.u (.mem M), .i a, .i n] ∧ 0 ≤ a ∧ a ≤ 1099511627776 ∧ 0 ≤ n ∧ n ≤ 1099511627776, nout := 2
    out := fun ins => match ins with | [.u (.mem M), .i a, .i n] => [.u (.mem (pass2M M a n)), .b (pass2B M a n)] | _ => []
    ret := .bool (.var 4), post := [.abs 3] }
/-- when a gate was passed last -/
def gLast (M : MemSt) (f n t : Int) : Option Int :=
  if t < 0 ∨ n ≤ t ∨ IntKind.i64.wrap (f + t) < 0 ∨ (M.W.length : Int) ≤ IntKind.i64.wrap (f + t) then none
  else if M.W[(IntKind.i64.wrap (f + t)).toNat]?.getD 0 = 0 ∨ 1099511627777 < M.W[(IntKind.i64.wrap (f + t)).toNat]?.getD 0 then none
  else some (IntKind.i64.wrap (IntKind.u64.wrap (M.W[(IntKind.i64.wrap (f + t)).toNat]?.getD 0 - 1)))
def cLastG : Ctr U :=
  { fn := 24, nin := 4, args := [.agg [.int .i64 (.var 1), .int .i64 (.var 2)], .int .i64 (.var 3), .hnd 0], heap := [.abs 0]
    pre := fun ins => ∃ M f n t, ins = [.u (.mem M), .i f, .i n, .i t], nout := 3
    out := fun ins => match ins with | [.u (.mem M), .i f, .i n, .i t] => [.u (.mem M), .i ((gLast M f n t).getD 0), .b (gLast M f n t).isSome] | _ => []
    ret := .tuple [.int .i64 (.var 5), .bool (.var 6)], post := [.abs 4] }
def cxP (P : Program) : Cx U := cx P ctsM
end Go.Proofs.Ytjohihkbampbgaa
