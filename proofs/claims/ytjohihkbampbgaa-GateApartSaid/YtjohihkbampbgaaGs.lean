/- Passes as objects: contracts. -/
import Derived.Test.YtjohihkbampbgaaGpV
namespace Go.Proofs.Ytjohihkbampbgaa
set_option linter.unusedVariables false
set_option linter.unusedSimpArgs false
set_option linter.unusedSectionVars false
open Go

/-- the next step of a Pass: it, the memory -/
def stepP (P : PassSt) (M : MemSt) : PassSt × MemSt :=
  if P.line = 1 then
    if soonB (M.load P.at_).n P.now P.apart then (⟨9, P.at_, P.apart, P.now, (M.load P.at_).n, 13⟩, M.load P.at_) else (⟨2, P.at_, P.apart, P.now, (M.load P.at_).n, 0⟩, M.load P.at_)
  else if P.line = 2 then
    if (M.cas P.at_ P.w (IntKind.u64.wrap (P.now + 1))).h then (⟨9, P.at_, P.apart, P.now, P.w, 0⟩, M.cas P.at_ P.w (IntKind.u64.wrap (P.now + 1))) else (⟨1, P.at_, P.apart, P.now, P.w, 0⟩, M.cas P.at_ P.w (IntKind.u64.wrap (P.now + 1)))
  else (P, M)
def errP (P : PassSt) : Int := if P.line = 9 then P.err else 14
def newP (f n t a w : Int) : PassSt := if t < 0 ∨ n ≤ t ∨ a < 0 ∨ 1099511627776 < a ∨ w < 0 ∨ 1099511627776 < w then ⟨9, 0, 0, 0, 0, 3⟩ else ⟨1, IntKind.i64.wrap (f + t), a, w, 0, 0⟩
def PassSt.ok (P : PassSt) : Prop := P.line = 1 ∧ P.err = 0 ∨ P.line = 2 ∧ P.err = 0 ∨ P.line = 9
def cStepP : Ctr U :=
  { fn := 20, nin := 2, args := [.hnd 0, .hnd 1], heap := [.abs 0, .abs 1]
    pre := fun ins => ∃ P M, ins = [.u (.pass P), .u (.mem M)] ∧ P.ok, nout := 3
    out := fun ins => match ins with | [.u (.pass P), .u (.mem M)] => [.u (.pass (stepP P M).1), .u (.mem (stepP P M).2), .b ((stepP P M).1.line == 9)] | _ => []
    ret := .bool (.var 4), post := [.abs 2, .abs 3] }
def cErrP : Ctr U :=
  { fn := 15, nin := 1, args := [.hnd 0], heap := [.abs 0]
    pre := fun ins => ∃ P, ins = [.u (.pass P)] ∧ P.ok, nout := 2
    out := fun ins => match ins with | [.u (.pass P)] => [.u (.pass P), .i (errP P)] | _ => []
    ret := .int .i64 (.var 2), post := [.abs 1] }
def cNewP : Ctr U :=
  { fn := 14, nin := 5, args := [.agg [.int .i64 (.var 0), .int .i64 (.var 1)], .int .i64 (.var 2), .int .i64 (.var 3), .int .i64 (.var 4)], heap := []
    pre := fun ins => ∃ f n t a w, ins = [.i f, .i n, .i t, .i a, .i w], nout := 1
    out := fun ins => match ins with | [.i f, .i n, .i t, .i a, .i w] => [.u (.pass (newP f n t a w))] | _ => []
    ret := .hnd 0, post := [.abs 5] }
def cLast1 : Ctr U :=
  { fn := 30, nin := 4, args := [.agg [.int .i64 (.var 1), .int .i64 (.var 2)], .int .i64 (.var 3), .hnd 0], heap := [.abs 0]
    pre := fun ins => ∃ M f n t, ins = [.u (.mem M), .i f, .i n, .i t], nout := 2
    out := fun ins => match ins with | [.u (.mem M), .i f, .i n, .i t] => [.u (.mem M), .i ((gLast M f n t).getD (-1))] | _ => []
    ret := .int .i64 (.var 5), post := [.abs 4] }
def coreT (op : SV) (i : Nat) (m o : Ex) : HE := .cells [op, .int .i64 (.var i), .int .i64 (.var (i + 1)), .int .i64 (.var (i + 2)), .int .i64 m, .int .i64 o] 58
def cBegins : Ctr U :=
  { fn := 29, nin := 10, args := [.ptr 0 0, .agg [.int .i64 (.var 5), .int .i64 (.var 6)], .agg [.int .i64 (.var 7), .int .i64 (.var 8), .int .i64 (.var 9)]], heap := [coreT .nilp 0 (.var 3) (.var 4)]
    pre := fun ins => ∃ a b c d e f n t x y, ins = [.i a, .i b, .i c, .i d, .i e, .i f, .i n, .i t, .i x, .i y], nout := 4
    out := fun ins => match ins with | [_, _, _, _, _, .i f, .i n, .i t, .i x, .i y] => [.u (.pass (newP f n (t.emod 2) (x.emod 50) (y.emod 500))), .i (t.emod 2), .i (x.emod 50), .i (y.emod 500)] | _ => []
    ret := .tuple [], post := [coreT (.hnd 1) 11 (.lit 0) (.lit 0), .abs 10] }
def ctsB : List (Ctr U) := ctsM ++ [cNewP]
def ctsN : List (Ctr U) := ctsM ++ [cLastG]
theorem hctsN : ∀ (ci : Nat) (c : Ctr U), ctsN[ci]? = some c → c.Holds objs Try.prog := by
  intro ci c h
  by_cases hlt : ci < 9
  · exact hctsM ci c (by rw [← h, ctsN, List.getElem?_append_left (by exact hlt)])
  · rw [ctsN, List.getElem?_append_right (by show 9 ≤ ci; omega)] at h
    match e : ci - ctsM.length, h with
    | 0, h => cases h; exact hLastG
    | n + 1, h => cases h
end Go.Proofs.Ytjohihkbampbgaa
