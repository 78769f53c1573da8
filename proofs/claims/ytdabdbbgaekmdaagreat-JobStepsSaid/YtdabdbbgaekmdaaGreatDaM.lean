import Derived.Test.YtdabdbbgaekmdaaGreatMf
import Derived.KernelRfl
/- Operations of jobs: what is said; contracts (printed by gen_db.py). -/
namespace Go.Proofs.YtdabdbbgaekmdaaGreat
set_option linter.unusedVariables false
set_option linter.unusedSimpArgs false
set_option linter.unusedSectionVars false
open Go Go.RowKit

/-- numbers of these names -/
def va (l : List Nat) (r : List Bnd) : List Bnd := (l.map fun n => .ex (.var n)) ++ r
theorem va_map (e : List (EV U)) (l : List Nat) (r : List Bnd) : (va l r).map (Bnd.den e) = (l.map fun n => EV.i (gI e n)) ++ r.map (Bnd.den e) := by rw [va, List.map_append, List.map_map]; rfl
def topW (i w : Int) : Int := i + 1 + (w / 65536 + 1) % 281474976710656 * 65536
/-- the word of a state -/
def layW (s c g : Int) : Int := s + 256 * c + 4294967296 * g
namespace OpSt
def x (O : OpSt) (k : Nat) : Int := O.l[k]?.getD 0
def ended (i e : Int) : OpSt := ⟨0, [], 9, i, 0, 0, 0, 0, 0, 0, 0, e⟩
def pop (O : OpSt) (pl pw pj : Int) : OpSt := ⟨1, O.l, 0, 0, 0, pl, pw, pj, 0, 0, 0, 0⟩
def at1 (O : OpSt) (i : Int) : OpSt := ⟨O.k, O.l, 1, i, 0, 0, 0, 0, O.fr, O.to, O.co, 0⟩
def at2 (O : OpSt) (w : Int) : OpSt := ⟨O.k, O.l, 2, O.i, w, 0, 0, 0, O.fr, O.to, O.co, 0⟩
def push (O : OpSt) (pl pw : Int) : OpSt := ⟨2, O.l, 3, O.i, 0, pl, pw, 0, 0, 0, 0, 0⟩
def goes (O : OpSt) (w : Int) : Prop := O.k = 1 ∨ O.k = 2 ∧ (w % 256 = 5 ∨ w % 256 = 2) ∨ O.k = 3 ∧ w % 256 = O.fr ∧ (w % 256 = 4 → w / 256 % 256 = O.co)
instance (O : OpSt) (w : Int) : Decidable (O.goes w) := by unfold goes; infer_instance
def next (O : OpSt) : Int := if O.k = 1 then layW 2 0 ((O.w / 4294967296 + 1) % 4294967296) else if O.k = 2 then layW 1 0 (O.w / 4294967296) else layW O.to (if O.to = 4 then O.co else 0) (O.w / 4294967296)
def swapped (O : OpSt) : OpSt := if O.k = 1 then ended O.i 0 else if O.k = 2 then O.push 1 0 else ended O.i 0
def cell (O : OpSt) : Int := IntKind.i64.wrap (O.x 0 + O.i)
def step (O : OpSt) (M : MemSt) : OpSt × MemSt :=
  if O.line = 0 then
    if O.pl = 1 then (if idxW (O.x 4) (M.load (O.x 2)).n < 0 then ended 0 7 else O.pop 2 (M.load (O.x 2)).n 0, M.load (O.x 2))
    else if O.pl = 2 then (O.pop 3 O.pw (idxW (O.x 4) (M.load (IntKind.i64.wrap (O.x 3 + idxW (O.x 4) O.pw))).n), M.load (IntKind.i64.wrap (O.x 3 + idxW (O.x 4) O.pw)))
    else (if (M.cas (O.x 2) O.pw (topW O.pj O.pw)).h = true then O.at1 (idxW (O.x 4) O.pw) else O.pop 1 0 0, M.cas (O.x 2) O.pw (topW O.pj O.pw))
  else if O.line = 1 then (if O.goes (M.load O.cell).n then O.at2 (M.load O.cell).n else ended 0 11, M.load O.cell)
  else if O.line = 2 then (if (M.cas O.cell O.w O.next).h = true then O.swapped else O.at1 O.i, M.cas O.cell O.w O.next)
  else if O.line = 3 then
    if O.pl = 1 then (O.push 2 (M.load (O.x 2)).n, M.load (O.x 2))
    else if O.pl = 2 then (O.push 3 O.pw, M.store (IntKind.i64.wrap (O.x 3 + O.i)) (idxW (O.x 4) O.pw + 1))
    else (if (M.cas (O.x 2) O.pw (topW O.i O.pw)).h = true then ended O.i 0 else O.push 1 0, M.cas (O.x 2) O.pw (topW O.i O.pw))
  else (O, M)
def newTake (l : List Int) : OpSt := ⟨1, l, 0, 0, 0, 1, 0, 0, 0, 0, 0, 0⟩
def newGive (l : List Int) (s i : Int) : OpSt := if i < 0 ∨ s ≤ i then ended 0 3 else ⟨2, l, 1, i, 0, 0, 0, 0, 0, 0, 0, 0⟩
def newTurn (l : List Int) (s i fr to co : Int) : OpSt := if i < 0 ∨ s ≤ i then ended 0 3 else if mayB fr to = false then ended 0 2 else if co < 0 ∨ 64 ≤ co then ended 0 3 else ⟨3, l, 1, i, 0, 0, 0, 0, fr, to, co, 0⟩
def told (O : OpSt) : Int := if O.line = 9 then O.err else 14
def index (O : OpSt) : Int := if O.line = 9 ∧ O.err = 0 then O.i else 0
end OpSt
namespace KeySt
def put (K : KeySt) (M : MemSt) : KeySt × MemSt := if K.line = 1 then (⟨0, 0, 9, 0⟩, M.store K.at_ K.w) else (K, M)
def get (K : KeySt) (M : MemSt) : KeySt × MemSt := if K.line = 1 then (⟨0, (M.load K.at_).n, 9, 0⟩, M.load K.at_) else (K, M)
def new (ks s i w : Int) : KeySt := if i < 0 ∨ s ≤ i then ⟨0, 0, 9, 3⟩ else ⟨IntKind.i64.wrap (ks + i), w, 1, 0⟩
def told (K : KeySt) : Int := if K.line = 9 then K.err else 14
def word (K : KeySt) : Int := if K.line = 9 ∧ K.err = 0 then K.w else 0
end KeySt

def cGetTop : Ctr U :=
  { fn := 132, nin := 1, args := [.int .u64 (.var 0)], heap := []
    pre := fun ins => ∃ w, ins = [.i w] ∧ isW w, nout := 2
    out := fun ins => match ins with | [.i w] => [.i (w % 65536 - 1), .i (w / 65536)] | _ => []
    ret := .tuple [.agg [.int .i64 (.var 1), .int .i64 (.var 2)], .int .i64 (.lit 0)], post := [] }
def cPuT : Ctr U :=
  { fn := 142, nin := 2, args := [.agg [.int .i64 (.var 0), .int .i64 (.var 1)]], heap := []
    pre := fun ins => ∃ i t, ins = [.i i, .i t] ∧ -1 ≤ i ∧ i ≤ 65534 ∧ 0 ≤ t ∧ t < 281474976710656, nout := 2
    out := fun ins => match ins with | [.i i, .i t] => [.i (i + 1 + t * 65536), .i 0] | _ => []
    ret := .tuple [.int .u64 (.var 2), .int .i64 (.var 3)], post := [] }
def stk3 : SV := .agg [.int .i64 (.var 0), .int .i64 (.var 1), .int .i64 (.var 2)]
def cRead : Ctr U :=
  { fn := 96, nin := 4, args := [stk3, .int .u64 (.var 3)], heap := []
    pre := fun ins => ∃ a b n w, ins = [.i a, .i b, .i n, .i w] ∧ isW w, nout := 1
    out := fun ins => match ins with | [.i a, .i b, .i n, .i w] => [.i (idxW n w)] | _ => []
    ret := .int .i64 (.var 4), post := [] }
def cQIdx : Ctr U :=
  { fn := 134, nin := 4, args := [stk3, .int .u64 (.var 3)], heap := []
    pre := fun ins => ∃ a b n w, ins = [.i a, .i b, .i n, .i w] ∧ isW w, nout := 1
    out := fun ins => match ins with | [.i a, .i b, .i n, .i w] => [.i (idxW n w)] | _ => []
    ret := .int .i64 (.var 4), post := [] }
def cQTop : Ctr U :=
  { fn := 135, nin := 2, args := [.int .i64 (.var 0), .int .u64 (.var 1)], heap := []
    pre := fun ins => ∃ i w, ins = [.i i, .i w] ∧ -1 ≤ i ∧ i ≤ 65534 ∧ isW w, nout := 1
    out := fun ins => match ins with | [.i i, .i w] => [.i (topW i w)] | _ => []
    ret := .int .u64 (.var 2), post := [] }
def cJRd : Ctr U :=
  { fn := 54, nin := 1, args := [.int .u64 (.var 0)], heap := [], pre := fun ins => ∃ w, ins = [.i w] ∧ isW w, nout := 3
    out := fun ins => match ins with | [.i w] => [.i (w % 256), .i (w / 256 % 256), .i (w / 4294967296)] | _ => []
    ret := .agg [.int .i64 (.var 1), .int .i64 (.var 2), .int .i64 (.var 3)], post := [] }
def cQRd : Ctr U :=
  { fn := 115, nin := 1, args := [.int .u64 (.var 0)], heap := [], pre := fun ins => ∃ w, ins = [.i w] ∧ isW w, nout := 3
    out := fun ins => match ins with | [.i w] => [.i (w % 256), .i (w / 256 % 256), .i (w / 4294967296)] | _ => []
    ret := .agg [.int .i64 (.var 1), .int .i64 (.var 2), .int .i64 (.var 3)], post := [] }
def cLay : Ctr U :=
  { fn := 88, nin := 3, args := [.agg [.int .i64 (.var 0), .int .i64 (.var 1), .int .i64 (.var 2)]], heap := [], pre := fun ins => ∃ s c g, ins = [.i s, .i c, .i g] ∧ 1 ≤ s ∧ s ≤ 5 ∧ 0 ≤ c ∧ c < 64 ∧ 0 ≤ g ∧ g ≤ 4294967295, nout := 1
    out := fun ins => match ins with | [.i s, .i c, .i g] => [.i (layW s c g)] | _ => []
    ret := .int .u64 (.var 3), post := [] }
def cQWd : Ctr U :=
  { fn := 99, nin := 3, args := [.int .i64 (.var 0), .int .i64 (.var 1), .int .i64 (.var 2)], heap := [], pre := fun ins => ∃ s c g, ins = [.i s, .i c, .i g] ∧ 1 ≤ s ∧ s ≤ 5 ∧ 0 ≤ c ∧ c < 64 ∧ 0 ≤ g ∧ g ≤ 4294967295, nout := 1
    out := fun ins => match ins with | [.i s, .i c, .i g] => [.i (layW s c g)] | _ => []
    ret := .int .u64 (.var 3), post := [] }
def cJMay : Ctr U :=
  { fn := 89, nin := 2, args := [.int .i64 (.var 0), .int .i64 (.var 1)], heap := [], pre := fun ins => ∃ a b, ins = [.i a, .i b], nout := 1
    out := fun ins => match ins with | [.i a, .i b] => [.b (mayB a b)] | _ => []
    ret := .bool (.var 2), post := [] }
def cQMay : Ctr U :=
  { fn := 106, nin := 2, args := [.int .i64 (.var 0), .int .i64 (.var 1)], heap := [], pre := fun ins => ∃ a b, ins = [.i a, .i b], nout := 1
    out := fun ins => match ins with | [.i a, .i b] => [.b (mayB a b)] | _ => []
    ret := .bool (.var 2), post := [] }
def sOk (s : Int) : Prop := 1 ≤ s ∧ s ≤ 64
def cNTk : Ctr U :=
  { fn := 49, nin := 5, args := [.agg [.int .i64 (.var 0), .int .i64 (.var 1), .int .i64 (.var 2), .int .i64 (.var 3), .int .i64 (.var 4)]], heap := [], pre := fun ins => ∃ st ks t ls s : Int, ins = [.i st, .i ks, .i t, .i ls, .i s] ∧ sOk s, nout := 1
    out := fun ins => match ins with | [.i st, .i ks, .i t, .i ls, .i s] => [.u (.take (.newTake [st, ks, t, ls, s]))] | _ => []
    ret := .hnd 0, post := [.abs 5] }
def cQNTk : Ctr U :=
  { fn := 64, nin := 5, args := [.agg [.int .i64 (.var 0), .int .i64 (.var 1), .int .i64 (.var 2), .int .i64 (.var 3), .int .i64 (.var 4)]], heap := [], pre := fun ins => ∃ st ks t ls s : Int, ins = [.i st, .i ks, .i t, .i ls, .i s] ∧ sOk s, nout := 1
    out := fun ins => match ins with | [.i st, .i ks, .i t, .i ls, .i s] => [.u (.rop (.newTake [st, ks, t, ls, s]))] | _ => []
    ret := .hnd 0, post := [.abs 5] }
def cNGv : Ctr U :=
  { fn := 33, nin := 6, args := [.agg [.int .i64 (.var 0), .int .i64 (.var 1), .int .i64 (.var 2), .int .i64 (.var 3), .int .i64 (.var 4)], .int .i64 (.var 5)], heap := [], pre := fun ins => ∃ st ks t ls s i : Int, ins = [.i st, .i ks, .i t, .i ls, .i s, .i i] ∧ sOk s, nout := 1
    out := fun ins => match ins with | [.i st, .i ks, .i t, .i ls, .i s, .i i] => [.u (.give (.newGive [st, ks, t, ls, s] s i))] | _ => []
    ret := .hnd 0, post := [.abs 6] }
def cQNGv : Ctr U :=
  { fn := 65, nin := 6, args := [.agg [.int .i64 (.var 0), .int .i64 (.var 1), .int .i64 (.var 2), .int .i64 (.var 3), .int .i64 (.var 4)], .int .i64 (.var 5)], heap := [], pre := fun ins => ∃ st ks t ls s i : Int, ins = [.i st, .i ks, .i t, .i ls, .i s, .i i] ∧ sOk s, nout := 1
    out := fun ins => match ins with | [.i st, .i ks, .i t, .i ls, .i s, .i i] => [.u (.rop (.newGive [st, ks, t, ls, s] s i))] | _ => []
    ret := .hnd 0, post := [.abs 6] }
def cNTu : Ctr U :=
  { fn := 45, nin := 9, args := [.agg [.int .i64 (.var 0), .int .i64 (.var 1), .int .i64 (.var 2), .int .i64 (.var 3), .int .i64 (.var 4)], .int .i64 (.var 5), .int .i64 (.var 6), .int .i64 (.var 7), .int .i64 (.var 8)], heap := [], pre := fun ins => ∃ st ks t ls s i fr to co : Int, ins = [.i st, .i ks, .i t, .i ls, .i s, .i i, .i fr, .i to, .i co] ∧ sOk s, nout := 1
    out := fun ins => match ins with | [.i st, .i ks, .i t, .i ls, .i s, .i i, .i fr, .i to, .i co] => [.u (.turn (.newTurn [st, ks, t, ls, s] s i fr to co))] | _ => []
    ret := .hnd 0, post := [.abs 9] }
def cQNTu : Ctr U :=
  { fn := 66, nin := 9, args := [.agg [.int .i64 (.var 0), .int .i64 (.var 1), .int .i64 (.var 2), .int .i64 (.var 3), .int .i64 (.var 4)], .int .i64 (.var 5), .int .i64 (.var 6), .int .i64 (.var 7), .int .i64 (.var 8)], heap := [], pre := fun ins => ∃ st ks t ls s i fr to co : Int, ins = [.i st, .i ks, .i t, .i ls, .i s, .i i, .i fr, .i to, .i co] ∧ sOk s, nout := 1
    out := fun ins => match ins with | [.i st, .i ks, .i t, .i ls, .i s, .i i, .i fr, .i to, .i co] => [.u (.rop (.newTurn [st, ks, t, ls, s] s i fr to co))] | _ => []
    ret := .hnd 0, post := [.abs 9] }
def cNKy : Ctr U :=
  { fn := 37, nin := 7, args := [.agg [.int .i64 (.var 0), .int .i64 (.var 1), .int .i64 (.var 2), .int .i64 (.var 3), .int .i64 (.var 4)], .int .i64 (.var 5), .int .u64 (.var 6)], heap := [], pre := fun ins => ∃ st ks t ls s i w : Int, ins = [.i st, .i ks, .i t, .i ls, .i s, .i i, .i w] ∧ sOk s ∧ isW w, nout := 1
    out := fun ins => match ins with | [.i st, .i ks, .i t, .i ls, .i s, .i i, .i w] => [.u (.key (.new ks s i w))] | _ => []
    ret := .hnd 0, post := [.abs 7] }
def cQNKy : Ctr U :=
  { fn := 67, nin := 7, args := [.agg [.int .i64 (.var 0), .int .i64 (.var 1), .int .i64 (.var 2), .int .i64 (.var 3), .int .i64 (.var 4)], .int .i64 (.var 5), .int .u64 (.var 6)], heap := [], pre := fun ins => ∃ st ks t ls s i w : Int, ins = [.i st, .i ks, .i t, .i ls, .i s, .i i, .i w] ∧ sOk s ∧ isW w, nout := 1
    out := fun ins => match ins with | [.i st, .i ks, .i t, .i ls, .i s, .i i, .i w] => [.u (.rkey false (.new ks s i w))] | _ => []
    ret := .hnd 0, post := [.abs 7] }
def cNKo : Ctr U :=
  { fn := 38, nin := 6, args := [.agg [.int .i64 (.var 0), .int .i64 (.var 1), .int .i64 (.var 2), .int .i64 (.var 3), .int .i64 (.var 4)], .int .i64 (.var 5)], heap := [], pre := fun ins => ∃ st ks t ls s i : Int, ins = [.i st, .i ks, .i t, .i ls, .i s, .i i] ∧ sOk s, nout := 1
    out := fun ins => match ins with | [.i st, .i ks, .i t, .i ls, .i s, .i i] => [.u (.keyOf (.new ks s i 0))] | _ => []
    ret := .hnd 0, post := [.abs 6] }
def cQNKo : Ctr U :=
  { fn := 68, nin := 6, args := [.agg [.int .i64 (.var 0), .int .i64 (.var 1), .int .i64 (.var 2), .int .i64 (.var 3), .int .i64 (.var 4)], .int .i64 (.var 5)], heap := [], pre := fun ins => ∃ st ks t ls s i : Int, ins = [.i st, .i ks, .i t, .i ls, .i s, .i i] ∧ sOk s, nout := 1
    out := fun ins => match ins with | [.i st, .i ks, .i t, .i ls, .i s, .i i] => [.u (.rkey true (.new ks s i 0))] | _ => []
    ret := .hnd 0, post := [.abs 6] }
def cTkStep : Ctr U :=
  { fn := 69, nin := 2, args := [.hnd 0, .hnd 1], heap := [.abs 0, .abs 1], pre := fun ins => ∃ (O : OpSt) (M : MemSt), ins = [.u (.take O), .u (.mem M)] ∧ M.fine, nout := 3
    out := fun ins => match ins with | [.u (.take O), .u (.mem M)] => [.u (.take (O.step M).1), .u (.mem (O.step M).2), .b ((O.step M).1.line == 9)] | _ => []
    ret := .bool (.var 4), post := [.abs 2, .abs 3] }
def cGvStep : Ctr U :=
  { fn := 35, nin := 2, args := [.hnd 0, .hnd 1], heap := [.abs 0, .abs 1], pre := fun ins => ∃ (O : OpSt) (M : MemSt), ins = [.u (.give O), .u (.mem M)] ∧ M.fine, nout := 3
    out := fun ins => match ins with | [.u (.give O), .u (.mem M)] => [.u (.give (O.step M).1), .u (.mem (O.step M).2), .b ((O.step M).1.line == 9)] | _ => []
    ret := .bool (.var 4), post := [.abs 2, .abs 3] }
def cTuStep : Ctr U :=
  { fn := 71, nin := 2, args := [.hnd 0, .hnd 1], heap := [.abs 0, .abs 1], pre := fun ins => ∃ (O : OpSt) (M : MemSt), ins = [.u (.turn O), .u (.mem M)] ∧ M.fine, nout := 3
    out := fun ins => match ins with | [.u (.turn O), .u (.mem M)] => [.u (.turn (O.step M).1), .u (.mem (O.step M).2), .b ((O.step M).1.line == 9)] | _ => []
    ret := .bool (.var 4), post := [.abs 2, .abs 3] }
def cKyStep : Ctr U :=
  { fn := 39, nin := 2, args := [.hnd 0, .hnd 1], heap := [.abs 0, .abs 1], pre := fun ins => ∃ (O : KeySt) (M : MemSt), ins = [.u (.key O), .u (.mem M)] ∧ M.fine, nout := 3
    out := fun ins => match ins with | [.u (.key O), .u (.mem M)] => [.u (.key (O.put M).1), .u (.mem (O.put M).2), .b ((O.put M).1.line == 9)] | _ => []
    ret := .bool (.var 4), post := [.abs 2, .abs 3] }
def cKoStep : Ctr U :=
  { fn := 41, nin := 2, args := [.hnd 0, .hnd 1], heap := [.abs 0, .abs 1], pre := fun ins => ∃ (O : KeySt) (M : MemSt), ins = [.u (.keyOf O), .u (.mem M)] ∧ M.fine, nout := 3
    out := fun ins => match ins with | [.u (.keyOf O), .u (.mem M)] => [.u (.keyOf (O.get M).1), .u (.mem (O.get M).2), .b ((O.get M).1.line == 9)] | _ => []
    ret := .bool (.var 4), post := [.abs 2, .abs 3] }
def cQOStep : Ctr U :=
  { fn := 70, nin := 2, args := [.hnd 0, .hnd 1], heap := [.abs 0, .abs 1], pre := fun ins => ∃ (O : OpSt) (M : MemSt), ins = [.u (.rop O), .u (.rmem M)] ∧ M.fine, nout := 3
    out := fun ins => match ins with | [.u (.rop O), .u (.rmem M)] => [.u (.rop (O.step M).1), .u (.rmem (O.step M).2), .b ((O.step M).1.line == 9)] | _ => []
    ret := .bool (.var 4), post := [.abs 2, .abs 3] }
def cQKStep : Ctr U :=
  { fn := 72, nin := 2, args := [.hnd 0, .hnd 1], heap := [.abs 0, .abs 1], pre := fun ins => ∃ (ld : Bool) (O : KeySt) (M : MemSt), ins = [.u (.rkey ld O), .u (.rmem M)] ∧ M.fine, nout := 3
    out := fun ins => match ins with | [.u (.rkey ld O), .u (.rmem M)] => [.u (.rkey ld (if ld then O.get M else O.put M).1), .u (.rmem (if ld then O.get M else O.put M).2), .b ((if ld then O.get M else O.put M).1.line == 9)] | _ => []
    ret := .bool (.var 4), post := [.abs 2, .abs 3] }
def cTkIdx : Ctr U :=
  { fn := 73, nin := 1, args := [.hnd 0], heap := [.abs 0], pre := fun ins => ∃ (O : OpSt), ins = [.u (.take O)], nout := 3
    out := fun ins => match ins with | [.u (.take O)] => [.u (.take O), .i O.index, .i O.told] | _ => []
    ret := .tuple [.int .i64 (.var 2), .int .i64 (.var 3)], post := [.abs 1] }
def cGvErr : Ctr U :=
  { fn := 36, nin := 1, args := [.hnd 0], heap := [.abs 0], pre := fun ins => ∃ (O : OpSt), ins = [.u (.give O)], nout := 2
    out := fun ins => match ins with | [.u (.give O)] => [.u (.give O), .i O.told] | _ => []
    ret := .int .i64 (.var 2), post := [.abs 1] }
def cTuErr : Ctr U :=
  { fn := 46, nin := 1, args := [.hnd 0], heap := [.abs 0], pre := fun ins => ∃ (O : OpSt), ins = [.u (.turn O)], nout := 2
    out := fun ins => match ins with | [.u (.turn O)] => [.u (.turn O), .i O.told] | _ => []
    ret := .int .i64 (.var 2), post := [.abs 1] }
def cKyErr : Ctr U :=
  { fn := 40, nin := 1, args := [.hnd 0], heap := [.abs 0], pre := fun ins => ∃ (O : KeySt), ins = [.u (.key O)], nout := 2
    out := fun ins => match ins with | [.u (.key O)] => [.u (.key O), .i O.told] | _ => []
    ret := .int .i64 (.var 2), post := [.abs 1] }
def cKoWd : Ctr U :=
  { fn := 42, nin := 1, args := [.hnd 0], heap := [.abs 0], pre := fun ins => ∃ (O : KeySt), ins = [.u (.keyOf O)], nout := 3
    out := fun ins => match ins with | [.u (.keyOf O)] => [.u (.keyOf O), .i O.word, .i O.told] | _ => []
    ret := .tuple [.int .u64 (.var 2), .int .i64 (.var 3)], post := [.abs 1] }
def cQOIdx : Ctr U :=
  { fn := 74, nin := 1, args := [.hnd 0], heap := [.abs 0], pre := fun ins => ∃ (O : OpSt), ins = [.u (.rop O)], nout := 3
    out := fun ins => match ins with | [.u (.rop O)] => [.u (.rop O), .i O.index, .i O.told] | _ => []
    ret := .tuple [.int .i64 (.var 2), .int .i64 (.var 3)], post := [.abs 1] }
def cQOErr : Ctr U :=
  { fn := 75, nin := 1, args := [.hnd 0], heap := [.abs 0], pre := fun ins => ∃ (O : OpSt), ins = [.u (.rop O)], nout := 2
    out := fun ins => match ins with | [.u (.rop O)] => [.u (.rop O), .i O.told] | _ => []
    ret := .int .i64 (.var 2), post := [.abs 1] }
def cQKErr : Ctr U :=
  { fn := 76, nin := 1, args := [.hnd 0], heap := [.abs 0], pre := fun ins => ∃ (ld : Bool) (O : KeySt), ins = [.u (.rkey ld O)], nout := 2
    out := fun ins => match ins with | [.u (.rkey ld O)] => [.u (.rkey ld O), .i O.told] | _ => []
    ret := .int .i64 (.var 2), post := [.abs 1] }
def cQKWd : Ctr U :=
  { fn := 77, nin := 1, args := [.hnd 0], heap := [.abs 0], pre := fun ins => ∃ (O : KeySt), ins = [.u (.rkey true O)], nout := 3
    out := fun ins => match ins with | [.u (.rkey true O)] => [.u (.rkey true O), .i O.word, .i O.told] | _ => []
    ret := .tuple [.int .u64 (.var 2), .int .i64 (.var 3)], post := [.abs 1] }
inductive CoSt where
  | no
  | take (O : OpSt)
  | give (O : OpSt)
  | turn (O : OpSt)
  | key (K : KeySt)
  | kof (K : KeySt)
def oA : CoSt → U | .take O => .take O | _ => .takeNil
def oB : CoSt → U | .give O => .give O | _ => .giveNil
def oC : CoSt → U | .turn O => .turn O | _ => .turnNil
def oD : CoSt → U | .key K => .key K | _ => .keyNil
def oE : CoSt → U | .kof K => .keyOf K | _ => .keyOfNil
def oF : CoSt → U | .take O => .rop O | .give O => .rop O | .turn O => .rop O | _ => .ropNil
def oG : CoSt → U | .key K => .rkey false K | .kof K => .rkey true K | _ => .rkeyNil
def o7 (o : CoSt) : List (EV U) := [.u (oA o), .u (oB o), .u (oC o), .u (oD o), .u (oE o), .u (oF o), .u (oG o)]
/-- which core's state objects tell -/
def coOf : List (EV U) → CoSt
  | .u (.take O) :: _ => .take O
  | _ :: .u (.give O) :: _ => .give O
  | _ :: _ :: .u (.turn O) :: _ => .turn O
  | _ :: _ :: _ :: .u (.key K) :: _ => .key K
  | _ :: _ :: _ :: _ :: .u (.keyOf K) :: _ => .kof K
  | _ => .no
def memOf : List (EV U) → MemSt
  | _ :: _ :: _ :: _ :: _ :: _ :: _ :: .u (.mem M) :: _ => M
  | _ => MemSt.new 0
def CoSt.step (o : CoSt) (M : MemSt) : CoSt × MemSt :=
  match o with
  | .no => (.no, M)
  | .take O => (.take (O.step M).1, (O.step M).2)
  | .give O => (.give (O.step M).1, (O.step M).2)
  | .turn O => (.turn (O.step M).1, (O.step M).2)
  | .key K => (.key (K.put M).1, (K.put M).2)
  | .kof K => (.kof (K.get M).1, (K.get M).2)
def hnds (n : Nat) : SV := .agg ((List.range n).map .hnd)
def cBStep : Ctr U :=
  { fn := 19, nin := 9, args := [.agg [.hnd 0, .hnd 1, .hnd 2, .hnd 3, .hnd 4, .hnd 5, .hnd 6], .hnd 7, .hnd 8], heap := [.abs 0, .abs 1, .abs 2, .abs 3, .abs 4, .abs 5, .abs 6, .abs 7, .abs 8]
    pre := fun ins => ∃ (o : CoSt) (M : MemSt), ins = o7 o ++ [.u (.mem M), .u (.rmem M)] ∧ M.fine, nout := 10
    out := fun ins => o7 ((coOf ins).step (memOf ins)).1 ++ [.u (.mem ((coOf ins).step (memOf ins)).2), .u (.rmem ((coOf ins).step (memOf ins)).2), .b true]
    ret := .bool (.var 18), post := [.abs 9, .abs 10, .abs 11, .abs 12, .abs 13, .abs 14, .abs 15, .abs 16, .abs 17] }
def cBAlike : Ctr U :=
  { fn := 20, nin := 7, args := [.agg [.hnd 0, .hnd 1, .hnd 2, .hnd 3, .hnd 4, .hnd 5, .hnd 6]], heap := [.abs 0, .abs 1, .abs 2, .abs 3, .abs 4, .abs 5, .abs 6]
    pre := fun ins => ∃ (o : CoSt), ins = o7 o, nout := 8
    out := fun ins => ins ++ [.b true]
    ret := .bool (.var 14), post := [.abs 7, .abs 8, .abs 9, .abs 10, .abs 11, .abs 12, .abs 13] }
def cAlA : Ctr U :=
  { fn := 20, nin := 2, args := [.agg [.hnd 0, .nilp, .nilp, .nilp, .nilp, .hnd 1, .nilp]], heap := [.abs 0, .abs 1]
    pre := fun ins => ∃ (O : OpSt), ins = [.u (.take O), .u (.rop O)], nout := 3, out := fun ins => ins ++ [.b true]
    ret := .bool (.var 4), post := [.abs 2, .abs 3] }
def cAlB : Ctr U :=
  { fn := 20, nin := 2, args := [.agg [.nilp, .hnd 0, .nilp, .nilp, .nilp, .hnd 1, .nilp]], heap := [.abs 0, .abs 1]
    pre := fun ins => ∃ (O : OpSt), ins = [.u (.give O), .u (.rop O)], nout := 3, out := fun ins => ins ++ [.b true]
    ret := .bool (.var 4), post := [.abs 2, .abs 3] }
def cAlC : Ctr U :=
  { fn := 20, nin := 2, args := [.agg [.nilp, .nilp, .hnd 0, .nilp, .nilp, .hnd 1, .nilp]], heap := [.abs 0, .abs 1]
    pre := fun ins => ∃ (O : OpSt), ins = [.u (.turn O), .u (.rop O)], nout := 3, out := fun ins => ins ++ [.b true]
    ret := .bool (.var 4), post := [.abs 2, .abs 3] }
def cAlD : Ctr U :=
  { fn := 20, nin := 2, args := [.agg [.nilp, .nilp, .nilp, .hnd 0, .nilp, .nilp, .hnd 1]], heap := [.abs 0, .abs 1]
    pre := fun ins => ∃ (O : KeySt), ins = [.u (.key O), .u (.rkey false O)], nout := 3, out := fun ins => ins ++ [.b true]
    ret := .bool (.var 4), post := [.abs 2, .abs 3] }
def cAlE : Ctr U :=
  { fn := 20, nin := 2, args := [.agg [.nilp, .nilp, .nilp, .nilp, .hnd 0, .nilp, .hnd 1]], heap := [.abs 0, .abs 1]
    pre := fun ins => ∃ (O : KeySt), ins = [.u (.keyOf O), .u (.rkey true O)], nout := 3, out := fun ins => ins ++ [.b true]
    ret := .bool (.var 4), post := [.abs 2, .abs 3] }
def ctsKR : List (Ctr U) := [cGetTop, cPuT]
def ctsDp : List (Ctr U) := [cLoad, cStore, cCAS, cGetTop, cPuT, cRead, cJRd, cLay]
def ctsDq : List (Ctr U) := [cQLoad, cQStore, cQCAS, cQIdx, cQTop, cQRd, cQWd]
def ctsDn : List (Ctr U) := [cJMay, cQMay]
def ctsDb : List (Ctr U) := [cTkStep, cGvStep, cTuStep, cKyStep, cKoStep, cQOStep, cQKStep, cTkIdx, cGvErr, cTuErr, cKyErr, cKoWd, cQOIdx, cQOErr, cQKErr, cQKWd]
def cxDi (P : Program) : Cx U := { cx P [] with join := true }
def cxDk (P : Program) : Cx U := { cx P ctsKR with join := false }
def cxDp (P : Program) : Cx U := { cx P ctsDp with join := true }
def cxDq (P : Program) : Cx U := { cx P ctsDq with join := true }
def cxDn (P : Program) : Cx U := { cx P ctsDn with join := true }
def cxDb (P : Program) : Cx U := { cx P ctsDb with join := true }
end Go.Proofs.YtdabdbbgaekmdaaGreat
/- The ways of the runs, as a program of ours printed them. -/
namespace Go.Proofs.YtdabdbbgaekmdaaGreat
set_option linter.unusedVariables false
set_option linter.unusedSimpArgs false
set_option linter.unusedSectionVars false
open Go
set_option maxRecDepth 100000

def hsGetTop : List (Nat × Nat × List Nat) := [(132, 2, [0])]
def tGetTop : Tree := (.and (.and (.and (.ret [.ex (.bin .sub .i64 (.conv .i64 (.bin .and .u64 (.bin .shr .u64 (.var 0) (.lit 0)) (.lit 65535))) (.lit 1)), .ex (.conv .i64 (.bin .and .u64 (.bin .shr .u64 (.var 0) (.lit 16)) (.lit 281474976710655)))]) .ok) .ok) .ok)
theorem rGetTop : runCtr { (cx Tryz.prog []) with hints := hsGetTop } 20 cGetTop [] [] = tGetTop := by kernel_rfl

def hsPuT : List (Nat × Nat × List Nat) := []
def tPuT : Tree := (.br (.cmp .lss (.var 0) (.lit (-1)))
 (.ret [.ex (.lit 0), .ex (.lit 3)])
 (.br (.cmp .gtr (.var 0) (.lit 65534))
 (.ret [.ex (.lit 0), .ex (.lit 3)])
 (.br (.cmp .lss (.var 1) (.lit 0))
 (.ret [.ex (.lit 0), .ex (.lit 3)])
 (.br (.cmp .gtr (.var 1) (.lit 281474976710655))
 (.ret [.ex (.lit 0), .ex (.lit 3)])
 (.and (.and (.and (.and (.ret [.ex (.bin .or .u64 (.bin .or .u64 (.lit 0) (.bin .shl .u64 (.conv .u64 (.bin .add .i64 (.var 0) (.lit 1))) (.lit 0))) (.bin .shl .u64 (.conv .u64 (.var 1)) (.lit 16))), .ex (.lit 0)]) .ok) .ok) .ok) .ok)))))
theorem rPuT : runCtr { (cx Tryz.prog []) with hints := hsPuT } 20 cPuT [] [] = tPuT := by kernel_rfl

def hsRead : List (Nat × Nat × List Nat) := []
def tRead : Tree := (.call 0 [.ex (.var 3)] (.br (.cmp .geq (.var 4) (.var 2))
 (.ret [.ex (.lit (-1))])
 (.ret [.ex (.var 4)])))
theorem rRead : runCtr { (cx Tryz.prog ctsKR) with hints := hsRead } 20 cRead [] [] = tRead := by kernel_rfl

def hsQIdx : List (Nat × Nat × List Nat) := []
def tQIdx : Tree := (.br (.cmp .geq (.bin .sub .i64 (.conv .i64 (.bin .rem .u64 (.var 3) (.lit 65536))) (.lit 1)) (.var 2))
 (.ret [.ex (.lit (-1))])
 (.ret [.ex (.bin .sub .i64 (.conv .i64 (.bin .rem .u64 (.var 3) (.lit 65536))) (.lit 1))]))
theorem rQIdx : runCtr { (cx Tryz.prog []) with hints := hsQIdx } 20 cQIdx [] [] = tQIdx := by kernel_rfl

def hsQTop : List (Nat × Nat × List Nat) := []
def tQTop : Tree := (.ret [.ex (.bin .or .u64 (.conv .u64 (.bin .add .i64 (.var 0) (.lit 1))) (.bin .shl .u64 (.bin .add .u64 (.bin .shr .u64 (.var 1) (.lit 16)) (.lit 1)) (.lit 16)))])
theorem rQTop : runCtr { (cx Tryz.prog []) with hints := hsQTop } 20 cQTop [] [] = tQTop := by kernel_rfl

def hsJRd : List (Nat × Nat × List Nat) := []
def tJRd : Tree := (.ret [.ex (.conv .i64 (.bin .and .u64 (.var 0) (.lit 255))), .ex (.conv .i64 (.bin .and .u64 (.bin .shr .u64 (.var 0) (.lit 8)) (.lit 255))), .ex (.conv .i64 (.bin .shr .u64 (.var 0) (.lit 32)))])
theorem rJRd : runCtr { (cxDi Tryz.prog) with hints := hsJRd } 20 cJRd [] [] = tJRd := by kernel_rfl

def hsQRd : List (Nat × Nat × List Nat) := []
def tQRd : Tree := (.ret [.ex (.conv .i64 (.bin .rem .u64 (.var 0) (.lit 256))), .ex (.conv .i64 (.bin .rem .u64 (.bin .quo .u64 (.var 0) (.lit 256)) (.lit 256))), .ex (.conv .i64 (.bin .shr .u64 (.var 0) (.lit 32)))])
theorem rQRd : runCtr { (cxDi Tryz.prog) with hints := hsQRd } 20 cQRd [] [] = tQRd := by kernel_rfl

def hsLay : List (Nat × Nat × List Nat) := []
def tLay : Tree := (.ret [.ex (.bin .or .u64 (.bin .or .u64 (.conv .u64 (.var 0)) (.bin .shl .u64 (.conv .u64 (.var 1)) (.lit 8))) (.bin .shl .u64 (.conv .u64 (.var 2)) (.lit 32)))])
theorem rLay : runCtr { (cxDi Tryz.prog) with hints := hsLay } 20 cLay [] [] = tLay := by kernel_rfl

def hsQWd : List (Nat × Nat × List Nat) := []
def tQWd : Tree := (.ret [.ex (.bin .or .u64 (.bin .or .u64 (.conv .u64 (.var 0)) (.bin .shl .u64 (.conv .u64 (.var 1)) (.lit 8))) (.bin .shl .u64 (.conv .u64 (.var 2)) (.lit 32)))])
theorem rQWd : runCtr { (cxDi Tryz.prog) with hints := hsQWd } 20 cQWd [] [] = tQWd := by kernel_rfl

def hsJMay : List (Nat × Nat × List Nat) := []
def tJMay : Tree := (.br (.cmp .lss (.var 0) (.lit 1))
 (.ret [.bx (.lit false)])
 (.br (.cmp .gtr (.var 0) (.lit 5))
 (.ret [.bx (.lit false)])
 (.br (.cmp .eql (.var 0) (.lit 0))
 (.br (.cmp .lss (.var 1) (.lit 1))
 (.ret [.bx (.lit false)])
 (.br (.cmp .gtr (.var 1) (.lit 5))
 (.ret [.bx (.lit false)])
 (.br (.cmp .eql (.var 1) (.lit 0))
 (.ret [.bx (.lit false)])
 (.br (.cmp .eql (.var 1) (.lit 1))
 (.ret [.bx (.lit false)])
 (.br (.cmp .eql (.var 1) (.lit 2))
 (.ret [.bx (.lit false)])
 (.br (.cmp .eql (.var 1) (.lit 3))
 (.ret [.bx (.lit false)])
 (.br (.cmp .eql (.var 1) (.lit 4))
 (.ret [.bx (.lit false)])
 (.br (.cmp .eql (.var 1) (.lit 5))
 (.ret [.bx (.lit false)])
 (.need (.lit false) .ok)))))))))
 (.br (.cmp .eql (.var 0) (.lit 1))
 (.br (.cmp .lss (.var 1) (.lit 1))
 (.ret [.bx (.lit false)])
 (.br (.cmp .gtr (.var 1) (.lit 5))
 (.ret [.bx (.lit false)])
 (.br (.cmp .eql (.var 1) (.lit 0))
 (.ret [.bx (.lit false)])
 (.br (.cmp .eql (.var 1) (.lit 1))
 (.ret [.bx (.lit false)])
 (.br (.cmp .eql (.var 1) (.lit 2))
 (.ret [.bx (.lit false)])
 (.br (.cmp .eql (.var 1) (.lit 3))
 (.ret [.bx (.lit false)])
 (.br (.cmp .eql (.var 1) (.lit 4))
 (.ret [.bx (.lit false)])
 (.br (.cmp .eql (.var 1) (.lit 5))
 (.ret [.bx (.lit false)])
 (.need (.lit false) .ok)))))))))
 (.br (.cmp .eql (.var 0) (.lit 2))
 (.br (.cmp .lss (.var 1) (.lit 1))
 (.ret [.bx (.lit false)])
 (.br (.cmp .gtr (.var 1) (.lit 5))
 (.ret [.bx (.lit false)])
 (.br (.cmp .eql (.var 1) (.lit 0))
 (.ret [.bx (.lit false)])
 (.br (.cmp .eql (.var 1) (.lit 1))
 (.ret [.bx (.lit false)])
 (.br (.cmp .eql (.var 1) (.lit 2))
 (.ret [.bx (.lit false)])
 (.br (.cmp .eql (.var 1) (.lit 3))
 (.ret [.bx (.lit true)])
 (.br (.cmp .eql (.var 1) (.lit 4))
 (.ret [.bx (.lit false)])
 (.br (.cmp .eql (.var 1) (.lit 5))
 (.ret [.bx (.lit false)])
 (.need (.lit false) .ok)))))))))
 (.br (.cmp .eql (.var 0) (.lit 3))
 (.br (.cmp .lss (.var 1) (.lit 1))
 (.ret [.bx (.lit false)])
 (.br (.cmp .gtr (.var 1) (.lit 5))
 (.ret [.bx (.lit false)])
 (.br (.cmp .eql (.var 1) (.lit 0))
 (.ret [.bx (.lit false)])
 (.br (.cmp .eql (.var 1) (.lit 1))
 (.ret [.bx (.lit false)])
 (.br (.cmp .eql (.var 1) (.lit 2))
 (.ret [.bx (.lit true)])
 (.br (.cmp .eql (.var 1) (.lit 3))
 (.ret [.bx (.lit false)])
 (.br (.cmp .eql (.var 1) (.lit 4))
 (.ret [.bx (.lit true)])
 (.br (.cmp .eql (.var 1) (.lit 5))
 (.ret [.bx (.lit false)])
 (.need (.lit false) .ok)))))))))
 (.br (.cmp .eql (.var 0) (.lit 4))
 (.br (.cmp .lss (.var 1) (.lit 1))
 (.ret [.bx (.lit false)])
 (.br (.cmp .gtr (.var 1) (.lit 5))
 (.ret [.bx (.lit false)])
 (.br (.cmp .eql (.var 1) (.lit 0))
 (.ret [.bx (.lit false)])
 (.br (.cmp .eql (.var 1) (.lit 1))
 (.ret [.bx (.lit false)])
 (.br (.cmp .eql (.var 1) (.lit 2))
 (.ret [.bx (.lit false)])
 (.br (.cmp .eql (.var 1) (.lit 3))
 (.ret [.bx (.lit true)])
 (.br (.cmp .eql (.var 1) (.lit 4))
 (.ret [.bx (.lit false)])
 (.br (.cmp .eql (.var 1) (.lit 5))
 (.ret [.bx (.lit true)])
 (.need (.lit false) .ok)))))))))
 (.br (.cmp .eql (.var 0) (.lit 5))
 (.br (.cmp .lss (.var 1) (.lit 1))
 (.ret [.bx (.lit false)])
 (.br (.cmp .gtr (.var 1) (.lit 5))
 (.ret [.bx (.lit false)])
 (.br (.cmp .eql (.var 1) (.lit 0))
 (.ret [.bx (.lit false)])
 (.br (.cmp .eql (.var 1) (.lit 1))
 (.ret [.bx (.lit false)])
 (.br (.cmp .eql (.var 1) (.lit 2))
 (.ret [.bx (.lit false)])
 (.br (.cmp .eql (.var 1) (.lit 3))
 (.ret [.bx (.lit false)])
 (.br (.cmp .eql (.var 1) (.lit 4))
 (.ret [.bx (.lit false)])
 (.br (.cmp .eql (.var 1) (.lit 5))
 (.ret [.bx (.lit false)])
 (.need (.lit false) .ok)))))))))
 (.need (.lit false) .ok)))))))))
theorem rJMay : runCtr { (cxDi Tryz.prog) with hints := hsJMay } 20 cJMay [] [] = tJMay := by kernel_rfl

def hsQMay : List (Nat × Nat × List Nat) := []
def tQMay : Tree := (.br (.cmp .eql (.var 0) (.lit 2))
 (.ret [.bx (.cmp .eql (.var 1) (.lit 3))])
 (.br (.cmp .eql (.var 0) (.lit 3))
 (.br (.cmp .eql (.var 1) (.lit 2))
 (.ret [.bx (.lit true)])
 (.ret [.bx (.cmp .eql (.var 1) (.lit 4))]))
 (.br (.cmp .eql (.var 0) (.lit 4))
 (.br (.cmp .eql (.var 1) (.lit 3))
 (.ret [.bx (.lit true)])
 (.ret [.bx (.cmp .eql (.var 1) (.lit 5))]))
 (.ret [.bx (.lit false)]))))
theorem rQMay : runCtr { (cxDi Tryz.prog) with hints := hsQMay } 20 cQMay [] [] = tQMay := by kernel_rfl

end Go.Proofs.YtdabdbbgaekmdaaGreat
/- Words: the contracts hold (printed by gen_db.py). -/
namespace Go.Proofs.YtdabdbbgaekmdaaGreat
set_option linter.unusedVariables false
set_option linter.unusedSimpArgs false
set_option linter.unusedSectionVars false
open Go Go.RowKit

/-! ### words -/
theorem shr_0 (w : Int) : binDen .shr .u64 w 0 = w := by
  show w.fdiv (2 ^ min (0 : Int).toNat 64) = w
  simp
theorem shr_16 (w : Int) : binDen .shr .u64 w 16 = w / 65536 := by
  show w.fdiv (2 ^ min (16 : Int).toNat 64) = w / 65536
  rw [show (2 : Int) ^ min (16 : Int).toNat 64 = 65536 by rfl, Int.fdiv_eq_ediv_of_nonneg _ (by decide)]
theorem and_16 {w : Int} (h : isW w) : binDen .and .u64 w 65535 = w % 65536 := and_mod 16 w (by decide) h.1 h.2
theorem and_48 {w : Int} (h : isW w) : binDen .and .u64 w 281474976710655 = w % 281474976710656 := and_mod 48 w (by decide) h.1 h.2
theorem shl_0m {w : Int} (h : isW w) : binDen .shl .u64 w 0 = w := by
  show IntKind.u64.wrap (w * 2 ^ min (0 : Int).toNat 64) = w
  rw [show (2 : Int) ^ min (0 : Int).toNat 64 = 1 by rfl, Int.mul_one, wrap_u64' h.1 h.2]
theorem shl_16m {w : Int} (h : 0 ≤ w) (h' : w < 281474976710656) : binDen .shl .u64 w 16 = w * 65536 := by
  show IntKind.u64.wrap (w * 2 ^ min (16 : Int).toNat 64) = w * 65536
  rw [show (2 : Int) ^ min (16 : Int).toNat 64 = 65536 by rfl, wrap_u64' (by omega) (by omega)]
theorem or_16m {a b : Int} (h0 : 0 ≤ a) (h1 : a < 65536) (h2 : 0 ≤ b) (h3 : b < 281474976710656) : bits .or .u64 a (b * 65536) = a + b * 65536 := by
  rw [show b * 65536 = 2 ^ 16 * b by omega]
  exact or_add 16 a b h0 h1 h2 (by omega) (by omega)
theorem vGetTop (P : Program) (hs : List (Nat × Nat × List Nat)) : ∀ ins, ins.length = cGetTop.nin → cGetTop.pre ins → tGetTop.sat { cx P [] with hints := hs } (ctrR cGetTop) ins := by
  rintro ins _ ⟨w, rfl, h⟩
  obtain ⟨h0, h1⟩ := h
  have e1 : IntKind.i64.wrap (w % 65536) = w % 65536 := wrap_small (by omega) (by omega)
  have e2 : IntKind.i64.wrap (w / 65536 % 281474976710656) = w / 65536 := by rw [wrap_small (by omega) (by omega)]; omega
  have e3 : IntKind.i64.wrap (w % 65536 - 1) = w % 65536 - 1 := wrap_small (by omega) (by omega)
  unfold tGetTop
  repeat' (first | with_reducible refine st_and ?_ ?_ | with_reducible exact st_ok)
  refine st_ret (a := ([.i (w % 65536 - 1), .i (w / 65536)] : List (EV U))) ?_ ?_
  · simp only [List.map_cons, List.map_nil, Bnd.den, Ex.den, gI, List.getElem?_cons_zero, shr_0, shr_16, and_16 ⟨h0, h1⟩, and_48 (w := w / 65536) ⟨by omega, by omega⟩, e1, e2]
    simp only [binDen, e3]
  · rfl
theorem vPuT (P : Program) (hs : List (Nat × Nat × List Nat)) : ∀ ins, ins.length = cPuT.nin → cPuT.pre ins → tPuT.sat { cx P [] with hints := hs } (ctrR cPuT) ins := by
  rintro ins _ ⟨i, t, rfl, h1, h2, h3, h4⟩
  have e1 : binDen .add .i64 i 1 = i + 1 := wrap_small (by omega) (by omega)
  have e2 : IntKind.u64.wrap (i + 1) = i + 1 := wrap_u64' (by omega) (by omega)
  have e3 : IntKind.u64.wrap t = t := wrap_u64' (by omega) (by omega)
  have e4 : binDen .or .u64 0 (i + 1) = i + 1 := or_zero' _ (by omega) (by omega)
  have e5 : binDen .or .u64 (i + 1) (t * 65536) = i + 1 + t * 65536 := or_16m (by omega) (by omega) h3 h4
  unfold tPuT
  repeat' (first
    | (first
      | (with_reducible refine st_need ?_ ?_
         focus (simp only [dn, reduceCtorEq, h1] <;> first | omega | assumption))
      | (with_reducible refine st_and ?_ ?_)
      | (with_reducible exact st_ok)
      | (with_reducible refine st_br (fun hc => ?_) (fun hc => ?_) <;> (simp only [dn, reduceCtorEq, h1] at hc) <;> (try (exfalso; first | contradiction | omega)))
      | (refine st_call (by rfl) (by simp only [dn, reduceCtorEq, h1] <;> rfl) ?_ (by rfl <;> rfl) (by simp only [dn] <;> rfl) ?_
         focus (first | rfl))
      | (with_reducible refine st_ret (by simp only [dn, reduceCtorEq, h1] <;> rfl) ?_
         (first | rfl | exact ⟨_, rfl⟩)))
    | (refine st_ret (a := ([.i (i + 1 + t * 65536), .i 0] : List (EV U))) ?_ ?_
       focus simp only [List.map_cons, List.map_nil, Bnd.den, Ex.den, gI, List.getElem?_cons_zero, List.getElem?_cons_succ, e1, e2, e3, shl_0m (w := i + 1) ⟨by omega, by omega⟩, shl_16m h3 h4, e4, e5]
       rfl))
theorem hGetTop : cGetTop.Holds objs Tryz.prog := runCtr_holds (X := { cx Tryz.prog [] with hints := hsGetTop }) objsOk mixed noCts (callable _ Tryz.func132 (by kernel_rfl) (by kernel_rfl)) (by rintro ins _ ⟨_, rfl, _⟩; rfl) (by rw [rGetTop]; exact vGetTop _ _)
theorem hPuT : cPuT.Holds objs Tryz.prog := runCtr_holds (X := { cx Tryz.prog [] with hints := hsPuT }) objsOk mixed noCts (callable _ Tryz.func142 (by kernel_rfl) (by kernel_rfl)) (by rintro ins _ ⟨_, _, rfl, _⟩; rfl) (by rw [rPuT]; exact vPuT _ _)
theorem hctsKR : ∀ (ci : Nat) (c : Ctr U), ctsKR[ci]? = some c → c.Holds objs Tryz.prog := by
  intro ci c h
  match ci, h with
  | 0, h => cases h; exact hGetTop
  | 1, h => cases h; exact hPuT
  | n + 2, h => cases h
theorem out_getTop (w : Int) : cGetTop.out [.i w] = [.i (w % 65536 - 1), .i (w / 65536)] := rfl
theorem out_puT (i t : Int) : cPuT.out [.i i, .i t] = [.i (i + 1 + t * 65536), .i 0] := rfl
theorem out_read (a b n w : Int) : cRead.out [.i a, .i b, .i n, .i w] = [.i (idxW n w)] := rfl
theorem vRead (P : Program) (hs : List (Nat × Nat × List Nat)) : ∀ ins, ins.length = cRead.nin → cRead.pre ins → tRead.sat { cx P ctsKR with hints := hs } (ctrR cRead) ins := by
  rintro ins _ ⟨a, b, n, w, rfl, h⟩
  unfold tRead
  by_cases hn : w % 65536 - 1 ≥ n
  · have e : idxW n w = -1 := if_pos hn
    repeat' (first
      | (first
        | (with_reducible refine st_need ?_ ?_
           focus (simp only [dn, reduceCtorEq, h] <;> first | omega | assumption))
        | (with_reducible refine st_and ?_ ?_)
        | (with_reducible exact st_ok)
        | (with_reducible refine st_br (fun hc => ?_) (fun hc => ?_) <;> (simp only [dn, reduceCtorEq, h] at hc) <;> (try (exfalso; first | contradiction | omega)))
        | (refine st_call (by rfl) (by simp only [dn, reduceCtorEq, h] <;> rfl) ?_ (by simp only [out_getTop] <;> rfl) (by simp only [dn] <;> rfl) ?_
           focus (first | exact ⟨_, rfl, h⟩))
        | (with_reducible refine st_ret (by simp only [dn, reduceCtorEq, h] <;> rfl) ?_
           (first | rfl | exact ⟨_, rfl⟩)))
      | (refine st_ret (by simp only [dn, reduceCtorEq, h] <;> rfl) ?_
         show _ = [EV.i (idxW n w)]
         rw [e]))
  · have e : idxW n w = w % 65536 - 1 := if_neg hn
    repeat' (first
      | (first
        | (with_reducible refine st_need ?_ ?_
           focus (simp only [dn, reduceCtorEq, h] <;> first | omega | assumption))
        | (with_reducible refine st_and ?_ ?_)
        | (with_reducible exact st_ok)
        | (with_reducible refine st_br (fun hc => ?_) (fun hc => ?_) <;> (simp only [dn, reduceCtorEq, h] at hc) <;> (try (exfalso; first | contradiction | omega)))
        | (refine st_call (by rfl) (by simp only [dn, reduceCtorEq, h] <;> rfl) ?_ (by simp only [out_getTop] <;> rfl) (by simp only [dn] <;> rfl) ?_
           focus (first | exact ⟨_, rfl, h⟩))
        | (with_reducible refine st_ret (by simp only [dn, reduceCtorEq, h] <;> rfl) ?_
           (first | rfl | exact ⟨_, rfl⟩)))
      | (refine st_ret (by simp only [dn, reduceCtorEq, h] <;> rfl) ?_
         show _ = [EV.i (idxW n w)]
         rw [e]))
theorem hRead : cRead.Holds objs Tryz.prog := runCtr_holds (X := { cx Tryz.prog ctsKR with hints := hsRead }) objsOk mixed hctsKR (callable _ Tryz.func96 (by kernel_rfl) (by kernel_rfl)) (by rintro ins _ ⟨_, _, _, _, rfl, _⟩; rfl) (by rw [rRead]; exact vRead _ _)
theorem u64_small {n : Int} (h : 0 ≤ n) (h' : n < 18446744073709551616) : IntKind.u64.wrap n = n := by simp [IntKind.wrap, IntKind.signed, IntKind.bits]; omega
theorem i64_pred (x : Int) : IntKind.i64.wrap (IntKind.i64.wrap x - 1) = IntKind.i64.wrap (x - 1) := by simp only [IntKind.wrap, IntKind.signed, IntKind.bits]; simp; omega
theorem tmod16 {w : Int} (h : isW w) : IntKind.i64.wrap (w.tmod 65536) = w % 65536 := by
  rw [Int.tmod_eq_emod_of_nonneg h.1]; exact wrap_small (by omega) (by omega)
theorem low16 {w : Int} : IntKind.i64.wrap (w % 65536 - 1) = w % 65536 - 1 := wrap_small (by omega) (by omega)

theorem vQIdx (P : Program) (hs : List (Nat × Nat × List Nat)) : ∀ ins, ins.length = cQIdx.nin → cQIdx.pre ins → tQIdx.sat { cx P [] with hints := hs } (ctrR cQIdx) ins := by
  rintro ins _ ⟨a, b, n, w, rfl, hw⟩
  simp only [Tree.sat, Bx.den, Ex.den, Bnd.den, gI, gB, gL, gF, gN, gNil, List.map_cons, List.map_nil, List.cons_append, List.nil_append, List.getElem?_cons_zero, List.getElem?_cons_succ, List.getD, Option.getD_some, cmp_eql_t, cmp_eql_f, cmp_neq_t, cmp_neq_f, cmp_lss_t, cmp_lss_f, cmp_leq_t, cmp_leq_f, cmp_gtr_t, cmp_gtr_f, cmp_geq_t, cmp_geq_f, Bool.not_eq_true', Bool.not_eq_false', Bool.and_eq_true, Bool.and_eq_false_iff, binDen, ctrR, Ctr.may, List.take_succ_cons, List.take_zero, Option.some.injEq, EV.u.injEq, tQIdx, cx, cQIdx, idxW, tmod16 hw, low16, true_and, and_true, ne_eq, not_true_eq_false, not_false_eq_true, false_implies, true_implies, implies_true, List.append_assoc]
  repeat' (first | with_reducible apply And.intro | intro _)
  all_goals first
    | omega
    | (rw [if_pos (by omega)])
    | (rw [if_neg (by omega)])
theorem hQIdx : cQIdx.Holds objs Tryz.prog := runCtr_holds (X := { cx Tryz.prog [] with hints := hsQIdx }) objsOk mixed noCts (callable _ Tryz.func134 (by kernel_rfl) (by kernel_rfl)) (by rintro ins _ ⟨_, _, _, _, rfl, _⟩; rfl) (by rw [rQIdx]; exact vQIdx _ _)
theorem topQ {i w : Int} (h : -1 ≤ i) (h1 : i ≤ 65534) (hw : isW w) : bits .or .u64 (IntKind.u64.wrap (IntKind.i64.wrap (i + 1))) (binDen .shl .u64 (IntKind.u64.wrap (binDen .shr .u64 w 16 + 1)) 16) = topW i w := by
  obtain ⟨h2, h3⟩ := hw
  rw [shr_16, wrap_small (n := i + 1) (by omega) (by omega), u64_small (n := i + 1) (by omega) (by omega), u64_small (n := w / 65536 + 1) (by omega) (by omega)]
  have e : binDen .shl .u64 (w / 65536 + 1) 16 = (w / 65536 + 1) % 281474976710656 * 65536 := by
    show IntKind.u64.wrap ((w / 65536 + 1) * 2 ^ min (Int.toNat 16) IntKind.u64.bits) = _
    have e2 : (2 : Int) ^ min (Int.toNat 16) IntKind.u64.bits = 65536 := by decide
    rw [e2]
    simp [IntKind.wrap, IntKind.signed, IntKind.bits]
    omega
  rw [e, or_16m (by omega) (by omega) (by omega) (by omega)]
  rfl
theorem vQTop (P : Program) (hs : List (Nat × Nat × List Nat)) : ∀ ins, ins.length = cQTop.nin → cQTop.pre ins → tQTop.sat { cx P [] with hints := hs } (ctrR cQTop) ins := by
  rintro ins _ ⟨i, w, rfl, h, h1, hw⟩
  refine st_ret rfl ?_
  exact congrArg (fun x => [EV.i x]) (topQ h h1 hw)
theorem hQTop : cQTop.Holds objs Tryz.prog := runCtr_holds (X := { cx Tryz.prog [] with hints := hsQTop }) objsOk mixed noCts (callable _ Tryz.func135 (by kernel_rfl) (by kernel_rfl)) (by rintro ins _ ⟨_, _, rfl, _⟩; rfl) (by rw [rQTop]; exact vQTop _ _)
theorem ofInt_small (a : Nat) (ha : a < 18446744073709551616) : (BitVec.ofInt 64 (a : Int)).toNat = a := by
  rw [BitVec.ofInt_natCast, BitVec.toNat_ofNat]; exact Nat.mod_eq_of_lt (by omega)
theorem i64_and_nat (a b : Nat) (ha : a < 4611686018427387904) (hb : b < 18446744073709551616) : bits .and .i64 (a : Int) (b : Int) = ((a &&& b : Nat) : Int) := by
  have hx : a &&& b ≤ a := Nat.and_le_left
  show IntKind.i64.wrap ((BitVec.ofInt 64 (a : Int) &&& BitVec.ofInt 64 (b : Int)).toNat : Int) = _
  rw [BitVec.toNat_and, ofInt_small a (by omega), ofInt_small b hb]
  exact wrap_small (by omega) (by omega)
theorem and_mod_i (k : Nat) (a : Int) (hk : k < 64) (h0 : 0 ≤ a) (h1 : a < 4611686018427387904) : bits .and .i64 a (2 ^ k - 1) = a % 2 ^ k := by
  obtain ⟨x, rfl⟩ := Int.eq_ofNat_of_zero_le h0
  have hp : 0 < 2 ^ k := Nat.two_pow_pos k
  have hq : 2 ^ k ≤ 2 ^ 63 := Nat.pow_le_pow_right (by omega) (by omega)
  have e : (2 : Int) ^ k - 1 = ((2 ^ k - 1 : Nat) : Int) := by
    rw [Int.ofNat_sub hp]; simp
  rw [e, i64_and_nat x (2 ^ k - 1) (by omega) (by omega), Nat.and_two_pow_sub_one_eq_mod]
  simp
theorem and_i48 {x : Int} (h0 : 0 ≤ x) (h1 : x < 562949953421312) : binDen .and .i64 x 281474976710655 = x % 281474976710656 := and_mod_i 48 x (by decide) h0 (by omega)
theorem tag_next {w : Int} (h : isW w) : binDen .and .i64 (binDen .add .i64 (w / 65536) 1) 281474976710655 = (w / 65536 + 1) % 281474976710656 := by
  obtain ⟨h0, h1⟩ := h
  rw [show binDen .add .i64 (w / 65536) 1 = w / 65536 + 1 from wrap_small (by omega) (by omega), and_i48 (by omega) (by omega)]
theorem tag_next' {w : Int} (h : isW w) : bits .and .i64 (IntKind.i64.wrap (w / 65536 + 1)) 281474976710655 = (w / 65536 + 1) % 281474976710656 := tag_next h
theorem pre_puT {i w : Int} (h : -1 ≤ i) (h1 : i ≤ 65534) : cPuT.pre [.i i, .i ((w / 65536 + 1) % 281474976710656)] := ⟨_, _, rfl, h, h1, by omega, by omega⟩
theorem wrapX {n : Int} (h : 0 ≤ n) (h' : n < 18446744073709551616) : IntKind.u64.wrap n = n := by simp [IntKind.wrap, IntKind.signed, IntKind.bits]; omega
theorem shrX (w : Int) (n : Nat) (hn : n < 64) : binDen .shr .u64 w (n : Int) = w / 2 ^ n := by
  show w.fdiv (2 ^ min (n : Int).toNat 64) = w / 2 ^ n
  rw [Int.toNat_natCast, Nat.min_eq_left (by omega), Int.fdiv_eq_ediv_of_nonneg _ (Int.le_of_lt (Int.pow_pos (by omega)))]
theorem shlX {w : Int} (n : Nat) (hn : n < 64) (h : 0 ≤ w) (h' : w * 2 ^ n < 18446744073709551616) : binDen .shl .u64 w (n : Int) = w * 2 ^ n := by
  show IntKind.u64.wrap (w * 2 ^ min (n : Int).toNat 64) = w * 2 ^ n
  rw [Int.toNat_natCast, Nat.min_eq_left (by omega), wrapX (Int.mul_nonneg h (Int.le_of_lt (Int.pow_pos (by omega)))) h']
theorem jobBits {s c g : Int} (h : ¬ (s < 1 ∨ 5 < s ∨ c < 0 ∨ 64 ≤ c ∨ g < 0 ∨ 4294967295 < g)) :
    binDen .or .u64 (binDen .or .u64 (IntKind.u64.wrap s) (binDen .shl .u64 (IntKind.u64.wrap c) 8)) (binDen .shl .u64 (IntKind.u64.wrap g) 32) = s + 256 * c + 4294967296 * g := by
  rw [wrapX (n := s) (by omega) (by omega), wrapX (n := c) (by omega) (by omega), wrapX (n := g) (by omega) (by omega)]
  have e1 := shlX (w := c) 8 (by decide) (by omega) (by omega)
  have e2 := shlX (w := g) 32 (by decide) (by omega) (by omega)
  have e3 := or_add 8 s c (by omega) (by omega) (by omega) (by omega) (by omega)
  have e4 := or_add 32 (s + 256 * c) g (by omega) (by omega) (by omega) (by omega) (by omega)
  have f1 : binDen .shl .u64 c 8 = 2 ^ 8 * c := by rw [Int.mul_comm]; exact e1
  have f2 : binDen .shl .u64 g 32 = 2 ^ 32 * g := by rw [Int.mul_comm]; exact e2
  rw [f1, f2]
  show bits .or .u64 (bits .or .u64 s (2 ^ 8 * c)) (2 ^ 32 * g) = _
  rw [e3]
  exact e4
theorem readX {w : Int} (hw : isW w) : IntKind.i64.wrap (binDen .and .u64 w 255) = w % 256 ∧ IntKind.i64.wrap (binDen .and .u64 (binDen .shr .u64 w 8) 255) = w / 256 % 256 ∧ IntKind.i64.wrap (binDen .shr .u64 w 32) = w / 4294967296 ∧
    IntKind.i64.wrap (binDen .rem .u64 w 256) = w % 256 ∧ IntKind.i64.wrap (binDen .rem .u64 (binDen .quo .u64 w 256) 256) = w / 256 % 256 := by
  obtain ⟨h0, h1⟩ := hw
  have e1 : binDen .and .u64 w 255 = w % 256 := and_mod 8 w (by decide) h0 h1
  have e2 : binDen .shr .u64 w 8 = w / 256 := shrX w 8 (by decide)
  have e3 : binDen .and .u64 (w / 256) 255 = w / 256 % 256 := and_mod 8 (w / 256) (by decide) (by omega) (by omega)
  have e4 : binDen .shr .u64 w 32 = w / 4294967296 := shrX w 32 (by decide)
  have e5 : binDen .rem .u64 w 256 = w % 256 := Int.tmod_eq_emod_of_nonneg h0
  have e6 : binDen .quo .u64 w 256 = w / 256 := by
    show IntKind.u64.wrap (w.tdiv 256) = _
    rw [Int.tdiv_eq_ediv_of_nonneg h0, wrapX (by omega) (by omega)]
  have e7 : binDen .rem .u64 (w / 256) 256 = w / 256 % 256 := Int.tmod_eq_emod_of_nonneg (by omega)
  rw [e1, e2, e3, e4, e5, e6, e7]
  exact ⟨wrap_small (by omega) (by omega), wrap_small (by omega) (by omega), wrap_small (by omega) (by omega), wrap_small (by omega) (by omega), wrap_small (by omega) (by omega)⟩
theorem vJRd (P : Program) (hs : List (Nat × Nat × List Nat)) : ∀ ins, ins.length = cJRd.nin → cJRd.pre ins → tJRd.sat { cxDi P with hints := hs } (ctrR cJRd) ins := by
  rintro ins _ ⟨w, rfl, hw⟩
  obtain ⟨e1, e2, e3, e4, e5⟩ := readX hw
  show ([.i (IntKind.i64.wrap (binDen .and .u64 w 255)), .i (IntKind.i64.wrap (binDen .and .u64 (binDen .shr .u64 w 8) 255)), .i (IntKind.i64.wrap (binDen .shr .u64 w 32))] : List (EV U)) = [.i (w % 256), .i (w / 256 % 256), .i (w / 4294967296)]
  rw [e1, e2, e3]
theorem hJRd : cJRd.Holds objs Tryz.prog := runCtr_holds (X := { cxDi Tryz.prog with hints := hsJRd }) objsOk mixed noCts (callable _ Tryz.func54 (by kernel_rfl) (by kernel_rfl)) (by rintro ins _ ⟨_, rfl, _⟩; rfl) (by rw [rJRd]; exact vJRd _ _)
theorem vQRd (P : Program) (hs : List (Nat × Nat × List Nat)) : ∀ ins, ins.length = cQRd.nin → cQRd.pre ins → tQRd.sat { cxDi P with hints := hs } (ctrR cQRd) ins := by
  rintro ins _ ⟨w, rfl, hw⟩
  obtain ⟨e1, e2, e3, e4, e5⟩ := readX hw
  show ([.i (IntKind.i64.wrap (binDen .rem .u64 w 256)), .i (IntKind.i64.wrap (binDen .rem .u64 (binDen .quo .u64 w 256) 256)), .i (IntKind.i64.wrap (binDen .shr .u64 w 32))] : List (EV U)) = [.i (w % 256), .i (w / 256 % 256), .i (w / 4294967296)]
  rw [e4, e5, e3]
theorem hQRd : cQRd.Holds objs Tryz.prog := runCtr_holds (X := { cxDi Tryz.prog with hints := hsQRd }) objsOk mixed noCts (callable _ Tryz.func115 (by kernel_rfl) (by kernel_rfl)) (by rintro ins _ ⟨_, rfl, _⟩; rfl) (by rw [rQRd]; exact vQRd _ _)
theorem vLay (P : Program) (hs : List (Nat × Nat × List Nat)) : ∀ ins, ins.length = cLay.nin → cLay.pre ins → tLay.sat { cxDi P with hints := hs } (ctrR cLay) ins := by
  rintro ins _ ⟨s, c, g, rfl, h1, h2, h3, h4, h5, h6⟩
  show ([.i (binDen .or .u64 (binDen .or .u64 (IntKind.u64.wrap s) (binDen .shl .u64 (IntKind.u64.wrap c) 8)) (binDen .shl .u64 (IntKind.u64.wrap g) 32))] : List (EV U)) = [.i (s + 256 * c + 4294967296 * g)]
  rw [jobBits (by omega)]
theorem hLay : cLay.Holds objs Tryz.prog := runCtr_holds (X := { cxDi Tryz.prog with hints := hsLay }) objsOk mixed noCts (callable _ Tryz.func88 (by kernel_rfl) (by kernel_rfl)) (by rintro ins _ ⟨_, _, _, rfl, _⟩; rfl) (by rw [rLay]; exact vLay _ _)
theorem vQWd (P : Program) (hs : List (Nat × Nat × List Nat)) : ∀ ins, ins.length = cQWd.nin → cQWd.pre ins → tQWd.sat { cxDi P with hints := hs } (ctrR cQWd) ins := by
  rintro ins _ ⟨s, c, g, rfl, h1, h2, h3, h4, h5, h6⟩
  show ([.i (binDen .or .u64 (binDen .or .u64 (IntKind.u64.wrap s) (binDen .shl .u64 (IntKind.u64.wrap c) 8)) (binDen .shl .u64 (IntKind.u64.wrap g) 32))] : List (EV U)) = [.i (s + 256 * c + 4294967296 * g)]
  rw [jobBits (by omega)]
theorem hQWd : cQWd.Holds objs Tryz.prog := runCtr_holds (X := { cxDi Tryz.prog with hints := hsQWd }) objsOk mixed noCts (callable _ Tryz.func99 (by kernel_rfl) (by kernel_rfl)) (by rintro ins _ ⟨_, _, _, rfl, _⟩; rfl) (by rw [rQWd]; exact vQWd _ _)
theorem may_t {a b : Int} (h : a = 2 ∧ b = 3 ∨ a = 3 ∧ (b = 2 ∨ b = 4) ∨ a = 4 ∧ (b = 3 ∨ b = 5)) : ([.b true] : List (EV U)) = [.b (mayB a b)] := by rw [mayB, decide_eq_true h]
theorem may_f {a b : Int} (h : ¬ (a = 2 ∧ b = 3 ∨ a = 3 ∧ (b = 2 ∨ b = 4) ∨ a = 4 ∧ (b = 3 ∨ b = 5))) : ([.b false] : List (EV U)) = [.b (mayB a b)] := by rw [mayB, decide_eq_false h]
theorem may_c {a b c : Int} (h : b = c ↔ (a = 2 ∧ b = 3 ∨ a = 3 ∧ (b = 2 ∨ b = 4) ∨ a = 4 ∧ (b = 3 ∨ b = 5))) : ([.b (cmpDen .eql b c)] : List (EV U)) = [.b (mayB a b)] := by
  have e : cmpDen .eql b c = mayB a b := by
    show (b == c) = decide _
    rw [Bool.eq_iff_iff, beq_iff_eq, decide_eq_true_iff]
    exact h
  rw [e]
theorem may_rng {a b : Int} (h : mayB a b = true) : (2 ≤ a ∧ a ≤ 4) ∧ 2 ≤ b ∧ b ≤ 5 := by
  have h1 := of_decide_eq_true h
  omega
set_option maxHeartbeats 4000000 in
theorem vJMay (P : Program) (hs : List (Nat × Nat × List Nat)) : ∀ ins, ins.length = cJMay.nin → cJMay.pre ins → tJMay.sat { cxDi P with hints := hs } (ctrR cJMay) ins := by
  rintro ins _ ⟨a, b, rfl⟩
  unfold tJMay
  repeat' (first
    | (with_reducible refine st_br (fun hc => ?_) (fun hc => ?_) <;> (simp only [dn, reduceCtorEq, va_map] at hc) <;> (try (exfalso; first | contradiction | omega)))
    | (refine st_ret (by simp only [dn, reduceCtorEq, va_map] <;> rfl) ?_
       first
         | exact may_f (by omega)
         | exact may_t (by omega)
         | exact may_c (by omega))
    | (with_reducible refine st_need ?_ ?_
       focus (simp only [dn, reduceCtorEq, va_map] <;> first | omega | assumption))
    | fail "no step")
theorem hJMay : cJMay.Holds objs Tryz.prog := runCtr_holds (X := { cxDi Tryz.prog with hints := hsJMay }) objsOk mixed noCts (callable _ Tryz.func89 (by kernel_rfl) (by kernel_rfl)) (by rintro ins _ ⟨_, _, rfl⟩; rfl) (by rw [rJMay]; exact vJMay _ _)
set_option maxHeartbeats 4000000 in
theorem vQMay (P : Program) (hs : List (Nat × Nat × List Nat)) : ∀ ins, ins.length = cQMay.nin → cQMay.pre ins → tQMay.sat { cxDi P with hints := hs } (ctrR cQMay) ins := by
  rintro ins _ ⟨a, b, rfl⟩
  unfold tQMay
  repeat' (first
    | (with_reducible refine st_br (fun hc => ?_) (fun hc => ?_) <;> (simp only [dn, reduceCtorEq, va_map] at hc) <;> (try (exfalso; first | contradiction | omega)))
    | (refine st_ret (by simp only [dn, reduceCtorEq, va_map] <;> rfl) ?_
       first
         | exact may_f (by omega)
         | exact may_t (by omega)
         | exact may_c (by omega))
    | (with_reducible refine st_need ?_ ?_
       focus (simp only [dn, reduceCtorEq, va_map] <;> first | omega | assumption))
    | fail "no step")
theorem hQMay : cQMay.Holds objs Tryz.prog := runCtr_holds (X := { cxDi Tryz.prog with hints := hsQMay }) objsOk mixed noCts (callable _ Tryz.func106 (by kernel_rfl) (by kernel_rfl)) (by rintro ins _ ⟨_, _, rfl⟩; rfl) (by rw [rQMay]; exact vQMay _ _)
end Go.Proofs.YtdabdbbgaekmdaaGreat
