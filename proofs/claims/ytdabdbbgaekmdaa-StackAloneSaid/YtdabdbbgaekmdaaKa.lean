/- Stacks: what each function is said to do. -/
import Derived.Test.YtdabdbbgaekmdaaMf
namespace Go.Proofs.Ytdabdbbgaekmdaa
set_option linter.unusedVariables false
set_option linter.unusedSimpArgs false
set_option linter.unusedSectionVars false
open Go

/-- the word of an index, with the tag behind that of a word -/
def topW (i w : Int) : Int := i + 1 + (w / 65536 + 1) % 281474976710656 * 65536
def fitsS (t l s c : Int) : Int := if c < 1 ∨ 4096 < c then 3 else if s < 1 ∨ 4096 < s ∨ t < 0 ∨ c ≤ t ∨ l < 0 ∨ IntKind.i64.wrap (c - s) < l ∨ (l ≤ t ∧ t < IntKind.i64.wrap (l + s)) then 2 else 0
def fillK (M : MemSt) (t l s : Int) : Nat → MemSt
  | 0 => M.store t 1
  | k + 1 => (fillK M t l s k).store (IntKind.i64.wrap (l + k)) (if (k : Int) + 1 = s then 0 else k + 2)
def fillSt (M : MemSt) (t l s : Int) : MemSt := if 1 ≤ s ∧ s ≤ 4096 then fillK M t l s s.toNat else M
/-- the indices from one on, at most so many -/
def chainL (M : MemSt) (l s : Int) : Nat → Int → List Int
  | 0, _ => []
  | n + 1, i => if i < 0 then [] else i :: chainL M l s n (idxW s (M.at0 (IntKind.i64.wrap (l + i))))
def chainS (M : MemSt) (t l s : Int) : List Int := chainL M l s s.toNat (idxW s (M.at0 t))

def PopSt.ok (P : PopSt) : Prop := (P.line = 1 ∨ (P.line = 2 ∨ P.line = 3) ∧ 0 ≤ P.i ∨ P.line = 9) ∧ isW P.w ∧ -1 ≤ P.j ∧ P.j ≤ 65534
def newPo (t l s : Int) : PopSt := ⟨1, t, l, s, 0, 0, 0⟩
def stepPo (P : PopSt) (M : MemSt) : PopSt × MemSt :=
  if P.line = 1 then (⟨if idxW P.size (M.load P.top).n < 0 then 9 else 2, P.top, P.links, P.size, (M.load P.top).n, idxW P.size (M.load P.top).n, P.j⟩, M.load P.top)
  else if P.line = 2 then (⟨3, P.top, P.links, P.size, P.w, P.i, idxW P.size (M.load (IntKind.i64.wrap (P.links + P.i))).n⟩, M.load (IntKind.i64.wrap (P.links + P.i)))
  else if P.line = 3 then (⟨if (M.cas P.top P.w (topW P.j P.w)).h then 9 else 1, P.top, P.links, P.size, P.w, P.i, P.j⟩, M.cas P.top P.w (topW P.j P.w))
  else (P, M)
/-- what an operation at a line, with an index, came to -/
def toldS (line i : Int) : Int × Int := if line = 9 then (if i < 0 then (0, 15) else (i, 0)) else (0, 14)
def PushSt.ok (P : PushSt) : Prop := ((P.line = 1 ∨ P.line = 2 ∨ P.line = 3) ∧ P.err = 0 ∨ P.line = 9) ∧ isW P.w ∧ 0 ≤ P.i ∧ P.i ≤ 65534
def newPu (t l s i : Int) : PushSt := if i < 0 ∨ s ≤ i then ⟨9, 0, 0, 0, 0, 0, 3⟩ else ⟨1, t, l, s, 0, i, 0⟩
def stepPu (P : PushSt) (M : MemSt) : PushSt × MemSt :=
  if P.line = 1 then (⟨2, P.top, P.links, P.size, (M.load P.top).n, P.i, P.err⟩, M.load P.top)
  else if P.line = 2 then (⟨3, P.top, P.links, P.size, P.w, P.i, P.err⟩, M.store (IntKind.i64.wrap (P.links + P.i)) (idxW P.size P.w + 1))
  else if P.line = 3 then (⟨if (M.cas P.top P.w (topW P.i P.w)).h then 9 else 1, P.top, P.links, P.size, P.w, P.i, P.err⟩, M.cas P.top P.w (topW P.i P.w))
  else (P, M)
def errPu (P : PushSt) : Int := if P.line = 9 then P.err else 14
def AllSt.ok (P : AllSt) : Prop := (P.line = 1 ∨ P.line = 2 ∧ 0 ≤ P.i ∨ P.line = 9) ∧ isW P.w
def newAl (t l s : Int) : AllSt := ⟨1, t, l, s, 0, 0⟩
def stepAl (P : AllSt) (M : MemSt) : AllSt × MemSt :=
  if P.line = 1 then (⟨if idxW P.size (M.load P.top).n < 0 then 9 else 2, P.top, P.links, P.size, (M.load P.top).n, idxW P.size (M.load P.top).n⟩, M.load P.top)
  else if P.line = 2 then (⟨if (M.cas P.top P.w (topW (-1) P.w)).h then 9 else 1, P.top, P.links, P.size, P.w, P.i⟩, M.cas P.top P.w (topW (-1) P.w))
  else (P, M)

def cGetTop : Ctr U :=
  { fn := 146, nin := 1, args := [.int .u64 (.var 0)], heap := []
    pre := fun ins => ∃ w, ins = [.i w] ∧ isW w, nout := 2
    out := fun ins => match ins with | [.i w] => [.i (w % 65536 - 1), .i (w / 65536)] | _ => []
    ret := .tuple [.agg [.int .i64 (.var 1), .int .i64 (.var 2)], .int .i64 (.lit 0)], post := [] }
def cPutTop : Ctr U :=
  { fn := 120, nin := 2, args := [.agg [.int .i64 (.var 0), .int .i64 (.var 1)]], heap := []
    pre := fun ins => ∃ i t, ins = [.i i, .i t] ∧ -1 ≤ i ∧ i ≤ 65534 ∧ 0 ≤ t ∧ t < 281474976710656, nout := 2
    out := fun ins => match ins with | [.i i, .i t] => [.i (i + 1 + t * 65536), .i 0] | _ => []
    ret := .tuple [.int .u64 (.var 2), .int .i64 (.var 3)], post := [] }
def stk3 : SV := .agg [.int .i64 (.var 0), .int .i64 (.var 1), .int .i64 (.var 2)]
def stk3' : SV := .agg [.int .i64 (.var 1), .int .i64 (.var 2), .int .i64 (.var 3)]
def cRead : Ctr U :=
  { fn := 124, nin := 4, args := [stk3, .int .u64 (.var 3)], heap := []
    pre := fun ins => ∃ a b n w, ins = [.i a, .i b, .i n, .i w] ∧ isW w, nout := 1
    out := fun ins => match ins with | [.i a, .i b, .i n, .i w] => [.i (idxW n w)] | _ => []
    ret := .int .i64 (.var 4), post := [] }
def cSFits : Ctr U :=
  { fn := 31, nin := 4, args := [stk3, .int .i64 (.var 3)], heap := []
    pre := fun ins => ∃ a b n s, ins = [.i a, .i b, .i n, .i s], nout := 1
    out := fun ins => match ins with | [.i a, .i b, .i n, .i s] => [.i (fitsS a b n s)] | _ => []
    ret := .int .i64 (.var 4), post := [] }
def cSFill : Ctr U :=
  { fn := 22, nin := 4, args := [stk3', .hnd 0], heap := [.abs 0]
    pre := fun ins => ∃ M a b n, ins = [.u (.mem M), .i a, .i b, .i n], nout := 1
    out := fun ins => match ins with | [.u (.mem M), .i a, .i b, .i n] => [.u (.mem (fillSt M a b n))] | _ => []
    ret := .tuple [], post := [.abs 4] }
def cSChain : Ctr U :=
  { fn := 24, nin := 4, args := [stk3', .hnd 0], heap := [.abs 0]
    pre := fun ins => ∃ M a b n, ins = [.u (.mem M), .i a, .i b, .i n] ∧ M.fine ∧ n ≤ 4096, nout := 4
    out := fun _ => []
    many := some fun c ins => match ins with | [.u (.mem M), .i a, .i b, .i n] => [.u (.mem M), .l (chainS M a b n ++ c), .i (chainS M a b n).length, .i (((chainS M a b n).length + c.length : Nat) : Int)] | _ => []
    ret := .slice 1 (.var 6) (.var 7), post := [.abs 4, .row .i64 3 5] }
def cNewPo : Ctr U :=
  { fn := 23, nin := 3, args := [stk3], heap := []
    pre := fun ins => ∃ a b n, ins = [.i a, .i b, .i n], nout := 1
    out := fun ins => match ins with | [.i a, .i b, .i n] => [.u (.pop (newPo a b n))] | _ => []
    ret := .hnd 0, post := [.abs 3] }
def cPoStep : Ctr U :=
  { fn := 16, nin := 2, args := [.hnd 0, .hnd 1], heap := [.abs 0, .abs 1]
    pre := fun ins => ∃ P M, ins = [.u (.pop P), .u (.mem M)] ∧ P.ok ∧ M.fine, nout := 3
    out := fun ins => match ins with | [.u (.pop P), .u (.mem M)] => [.u (.pop (stepPo P M).1), .u (.mem (stepPo P M).2), .b ((stepPo P M).1.line == 9)] | _ => []
    ret := .bool (.var 4), post := [.abs 2, .abs 3] }
def cPoIndex : Ctr U :=
  { fn := 14, nin := 1, args := [.hnd 0], heap := [.abs 0]
    pre := fun ins => ∃ P, ins = [.u (.pop P)] ∧ P.ok, nout := 3
    out := fun ins => match ins with | [.u (.pop P)] => [.u (.pop P), .i (toldS P.line P.i).1, .i (toldS P.line P.i).2] | _ => []
    ret := .tuple [.int .i64 (.var 2), .int .i64 (.var 3)], post := [.abs 1] }
def cNewPu : Ctr U :=
  { fn := 20, nin := 4, args := [stk3, .int .i64 (.var 3)], heap := []
    pre := fun ins => ∃ a b n i, ins = [.i a, .i b, .i n, .i i], nout := 1
    out := fun ins => match ins with | [.i a, .i b, .i n, .i i] => [.u (.push (newPu a b n i))] | _ => []
    ret := .hnd 0, post := [.abs 4] }
def cPuStep : Ctr U :=
  { fn := 17, nin := 2, args := [.hnd 0, .hnd 1], heap := [.abs 0, .abs 1]
    pre := fun ins => ∃ P M, ins = [.u (.push P), .u (.mem M)] ∧ P.ok ∧ M.fine, nout := 3
    out := fun ins => match ins with | [.u (.push P), .u (.mem M)] => [.u (.push (stepPu P M).1), .u (.mem (stepPu P M).2), .b ((stepPu P M).1.line == 9)] | _ => []
    ret := .bool (.var 4), post := [.abs 2, .abs 3] }
def cPuErr : Ctr U :=
  { fn := 19, nin := 1, args := [.hnd 0], heap := [.abs 0]
    pre := fun ins => ∃ P, ins = [.u (.push P)] ∧ P.ok, nout := 2
    out := fun ins => match ins with | [.u (.push P)] => [.u (.push P), .i (errPu P)] | _ => []
    ret := .int .i64 (.var 2), post := [.abs 1] }
def cNewAl : Ctr U :=
  { fn := 30, nin := 3, args := [stk3], heap := []
    pre := fun ins => ∃ a b n, ins = [.i a, .i b, .i n], nout := 1
    out := fun ins => match ins with | [.i a, .i b, .i n] => [.u (.all (newAl a b n))] | _ => []
    ret := .hnd 0, post := [.abs 3] }
def cAlStep : Ctr U :=
  { fn := 18, nin := 2, args := [.hnd 0, .hnd 1], heap := [.abs 0, .abs 1]
    pre := fun ins => ∃ P M, ins = [.u (.all P), .u (.mem M)] ∧ P.ok ∧ M.fine, nout := 3
    out := fun ins => match ins with | [.u (.all P), .u (.mem M)] => [.u (.all (stepAl P M).1), .u (.mem (stepAl P M).2), .b ((stepAl P M).1.line == 9)] | _ => []
    ret := .bool (.var 4), post := [.abs 2, .abs 3] }
def cAlIndex : Ctr U :=
  { fn := 15, nin := 1, args := [.hnd 0], heap := [.abs 0]
    pre := fun ins => ∃ P, ins = [.u (.all P)] ∧ P.ok, nout := 3
    out := fun ins => match ins with | [.u (.all P)] => [.u (.all P), .i (toldS P.line P.i).1, .i (toldS P.line P.i).2] | _ => []
    ret := .tuple [.int .i64 (.var 2), .int .i64 (.var 3)], post := [.abs 1] }
def cxK (P : Program) : Cx U := cx P []
def ctsKR : List (Ctr U) := [cGetTop, cPutTop]
def ctsKT : List (Ctr U) := ctsM ++ [cGetTop, cPutTop, cRead]
/-! ### loops -/
def sFillInv (env : List (EV U)) : Prop := ∃ M a b n x0 x1 x2 i, env = [.u (.mem M), .i a, .i b, .i n, x0, x1, x2, .u (.mem (fillK M a b n i.toNat)), .i i] ∧ 0 ≤ i ∧ i ≤ n ∧ 1 ≤ n ∧ n ≤ 4096
def lSFill : LoopS U :=
  { fn := 22, rid := 4, nv := 2, tm := [(16, .int .i64 (.var 8))], hp := [(0, .abs 7)], reb := [], inv := sFillInv, mu := fun env => (gI env 3 - gI env 8).toNat }
def sChainInv (env : List (EV U)) : Prop := ∃ M a b n x7 x8 i k xs c, env = [.u (.mem M), .i a, .i b, .i n, .u (.mem M), .l M.W, .i M.W.length, x7, x8, .i i, .i k, .l xs, .i c] ∧ M.fine ∧ n ≤ 4096 ∧ 0 ≤ k ∧ k ≤ n.toNat ∧ c = xs.length ∧ k ≤ c ∧ xs.take k.toNat ++ chainL M b n (n.toNat - k.toNat) i = chainS M a b n ∧ i ≤ 65535
def lSChain : LoopS U :=
  { fn := 123, rid := 2, nv := 4, tm := [(4, .int .i64 (.var 9)), (5, .int .i64 (.var 10))], hp := [(2, .cells [.slice 9 (.var 10) (.var 12)] 55), (9, .row .i64 3 11)], reb := [(9, 0)], inv := sChainInv, mu := fun env => (gI env 3 - gI env 10).toNat }
def cxKL (P : Program) (l : LoopS U) : Cx U := { cx P ctsKT with loops := [l] }
end Go.Proofs.Ytdabdbbgaekmdaa
