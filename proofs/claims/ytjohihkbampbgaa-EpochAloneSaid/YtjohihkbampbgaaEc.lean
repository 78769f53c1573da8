/- Epochs: what each function is said to do. -/
import Derived.Test.YtjohihkbampbgaaGcV
namespace Go.Proofs.Ytjohihkbampbgaa
set_option linter.unusedVariables false
set_option linter.unusedSimpArgs false
set_option linter.unusedSectionVars false
open Go

def u32 (x : Int) : Int := IntKind.u32.wrap x
def MemSt.at0 (M : MemSt) (x : Int) : Int := if 0 ≤ x ∧ x < M.W.length then M.W[x.toNat]?.getD 0 else 0
def fitsE (a b n s : Int) : Int := if s < 1 ∨ 4096 < s then 3 else if n < 1 ∨ 64 < n ∨ a < 0 ∨ s ≤ a ∨ b < 0 ∨ IntKind.i64.wrap (s - n) < b ∨ (b ≤ a ∧ a < IntKind.i64.wrap (b + n)) then 2 else 0
def fillE (M : MemSt) (a b n : Int) : MemSt := if 1 ≤ n ∧ n ≤ 64 then fillM (M.store a 0) b n.toNat else M
def pinAt (M : MemSt) (b : Int) (i : Nat) : Int := let w := M.at0 (IntKind.i64.wrap (b + i)); if w = 0 then -1 else u32 (IntKind.u64.wrap (w - 1))
def pinnedL (M : MemSt) (b : Int) (n : Nat) : List Int := (List.range n).map (pinAt M b)
def manyE (n : Int) : Nat := if 1 ≤ n ∧ n ≤ 64 then n.toNat else 0

def EPinSt.ok (P : EPinSt) : Prop := ((P.line = 0 ∨ P.line = 1 ∨ P.line = 2) ∧ P.err = 0 ∨ P.line = -1 ∧ (P.err = 0 ∨ P.now = 0)) ∧ 0 ≤ P.now ∧ P.now < 4294967296
def newEP (a b n c : Int) : EPinSt := if c < 0 ∨ n ≤ c then ⟨-1, 0, 0, 0, 3⟩ else ⟨0, a, IntKind.i64.wrap (b + c), 0, 0⟩
def stepEP (P : EPinSt) (M : MemSt) : EPinSt × MemSt :=
  if P.line = 0 then (⟨1, P.at_, P.pin, u32 (M.load P.at_).n, P.err⟩, M.load P.at_)
  else if P.line = 1 then (⟨2, P.at_, P.pin, P.now, P.err⟩, M.store P.pin (P.now + 1))
  else if P.line = 2 then (if u32 (M.load P.at_).n = P.now then (⟨-1, P.at_, P.pin, P.now, 0⟩, M.load P.at_) else (⟨1, P.at_, P.pin, u32 (M.load P.at_).n, P.err⟩, M.load P.at_))
  else (P, M)
def atEP (P : EPinSt) : Int × Int := if P.line = -1 then (if P.err = 0 then (P.now, 0) else (0, P.err)) else (0, 14)
def EUnpSt.ok (P : EUnpSt) : Prop := P.line = 0 ∧ P.err = 0 ∨ P.line = -1
def newEU (b n c : Int) : EUnpSt := if c < 0 ∨ n ≤ c then ⟨-1, 0, 3⟩ else ⟨0, IntKind.i64.wrap (b + c), 0⟩
def stepEU (P : EUnpSt) (M : MemSt) : EUnpSt × MemSt := if P.line = 0 then (⟨-1, P.pin, 0⟩, M.store P.pin 0) else (P, M)
def errEU (P : EUnpSt) : Int := if P.line = -1 then P.err else 14
def EAdvSt.ok (P : EAdvSt) : Prop := (P.line = 0 ∧ P.next = 0 ∨ (P.line = 1 ∨ P.line = 2) ∧ u32 P.w = P.p ∨ P.line = -1) ∧ (P.line = 1 → 0 ≤ P.next ∧ P.next < P.cores) ∧ (P.line ≠ -1 → P.err = 0 ∧ 0 ≤ P.c ∧ P.c < P.cores ∧ P.cores ≤ 64)
def newEA (a b n c p : Int) : EAdvSt := if c < 0 ∨ n ≤ c then ⟨-1, 0, 0, 0, 0, 0, 0, 0, 3⟩ else ⟨0, a, b, n, c, p, 0, 0, 0⟩
/-- whose pin is next, from one on -/
def turnTo (f c : Int) : Int := if f = c then f + 1 else f
def turnA (P : EAdvSt) (w f : Int) : EAdvSt := if turnTo f P.c < P.cores then ⟨1, P.at_, P.pins, P.cores, P.c, P.p, w, turnTo f P.c, P.err⟩ else ⟨2, P.at_, P.pins, P.cores, P.c, P.p, w, 0, P.err⟩
def endA (P : EAdvSt) (w e : Int) : EAdvSt := ⟨-1, P.at_, P.pins, P.cores, P.c, P.p, w, 0, e⟩
def stepEA (P : EAdvSt) (M : MemSt) : EAdvSt × MemSt :=
  if P.line = 0 then (if u32 (M.load P.at_).n ≠ P.p then endA P (M.load P.at_).n 14 else turnA P (M.load P.at_).n 0, M.load P.at_)
  else if P.line = 1 then
    let x := (M.load (IntKind.i64.wrap (P.pins + P.next))).n
    (if x ≠ 0 ∧ x ≠ P.p + 1 then endA P P.w 14 else turnA P P.w (P.next + 1), M.load (IntKind.i64.wrap (P.pins + P.next)))
  else if P.line = 2 then (endA P P.w (if (M.cas P.at_ P.w (P.p + 1)).h then 0 else 14), M.cas P.at_ P.w (P.p + 1))
  else (P, M)
def errEA (P : EAdvSt) : Int := if P.line = -1 then P.err else 14

def cEFits : Ctr U :=
  { fn := 57, nin := 4, args := [.agg [.int .i64 (.var 0), .int .i64 (.var 1), .int .i64 (.var 2)], .int .i64 (.var 3)], heap := []
    pre := fun ins => ∃ a b n s, ins = [.i a, .i b, .i n, .i s], nout := 1
    out := fun ins => match ins with | [.i a, .i b, .i n, .i s] => [.i (fitsE a b n s)] | _ => []
    ret := .int .i64 (.var 4), post := [] }
def cEFill : Ctr U :=
  { fn := 70, nin := 4, args := [.agg [.int .i64 (.var 1), .int .i64 (.var 2), .int .i64 (.var 3)], .hnd 0], heap := [.abs 0]
    pre := fun ins => ∃ M a b n, ins = [.u (.mem M), .i a, .i b, .i n], nout := 1
    out := fun ins => match ins with | [.u (.mem M), .i a, .i b, .i n] => [.u (.mem (fillE M a b n))] | _ => []
    ret := .tuple [], post := [.abs 4] }
def cEFillNil : Ctr U :=
  { fn := 70, nin := 3, args := [.agg [.int .i64 (.var 0), .int .i64 (.var 1), .int .i64 (.var 2)], .nilp], heap := []
    pre := fun ins => ∃ a b n, ins = [.i a, .i b, .i n], nout := 0, out := fun _ => [], ret := .tuple [], post := [] }
def cENow : Ctr U :=
  { fn := 52, nin := 4, args := [.agg [.int .i64 (.var 1), .int .i64 (.var 2), .int .i64 (.var 3)], .hnd 0], heap := [.abs 0]
    pre := fun ins => ∃ M a b n, ins = [.u (.mem M), .i a, .i b, .i n], nout := 2
    out := fun ins => match ins with | [.u (.mem M), .i a, .i b, .i n] => [.u (.mem M), .i (u32 (M.at0 a))] | _ => []
    ret := .int .i64 (.var 5), post := [.abs 4] }
def cEPinned : Ctr U :=
  { fn := 69, nin := 4, args := [.agg [.int .i64 (.var 1), .int .i64 (.var 2), .int .i64 (.var 3)], .hnd 0], heap := [.abs 0]
    pre := fun ins => ∃ M a b n, ins = [.u (.mem M), .i a, .i b, .i n], nout := 4
    out := fun _ => []
    many := some fun c ins => match ins with | [.u (.mem M), .i a, .i b, .i n] => [.u (.mem M), .l (pinnedL M b (manyE n) ++ c), .i (manyE n), .i ((manyE n + c.length : Nat) : Int)] | _ => []
    ret := .slice 1 (.var 6) (.var 7), post := [.abs 4, .row .i64 3 5] }
def cEPinnedNil : Ctr U :=
  { fn := 69, nin := 3, args := [.agg [.int .i64 (.var 0), .int .i64 (.var 1), .int .i64 (.var 2)], .nilp], heap := []
    pre := fun ins => ∃ a b n, ins = [.i a, .i b, .i n], nout := 3
    out := fun _ => []
    many := some fun c ins => match ins with | [.i a, .i b, .i n] => [.l (List.replicate (manyE n) (-1) ++ c), .i (manyE n), .i ((manyE n + c.length : Nat) : Int)] | _ => []
    ret := .slice 0 (.var 4) (.var 5), post := [.row .i64 3 3] }

def cENewPin : Ctr U :=
  { fn := 48, nin := 4, args := [.agg [.int .i64 (.var 0), .int .i64 (.var 1), .int .i64 (.var 2)], .int .i64 (.var 3)], heap := []
    pre := fun ins => ∃ a b n c, ins = [.i a, .i b, .i n, .i c], nout := 1
    out := fun ins => match ins with | [.i a, .i b, .i n, .i c] => [.u (.epin (newEP a b n c))] | _ => []
    ret := .hnd 0, post := [.abs 4] }
def cEPinStep : Ctr U :=
  { fn := 53, nin := 2, args := [.hnd 0, .hnd 1], heap := [.abs 0, .abs 1]
    pre := fun ins => ∃ P M, ins = [.u (.epin P), .u (.mem M)] ∧ P.ok, nout := 3
    out := fun ins => match ins with | [.u (.epin P), .u (.mem M)] => [.u (.epin (stepEP P M).1), .u (.mem (stepEP P M).2), .b ((stepEP P M).1.line == -1)] | _ => []
    ret := .bool (.var 4), post := [.abs 2, .abs 3] }
def cEPinAt : Ctr U :=
  { fn := 54, nin := 1, args := [.hnd 0], heap := [.abs 0]
    pre := fun ins => ∃ P, ins = [.u (.epin P)] ∧ P.ok, nout := 3
    out := fun ins => match ins with | [.u (.epin P)] => [.u (.epin P), .i (atEP P).1, .i (atEP P).2] | _ => []
    ret := .tuple [.int .i64 (.var 2), .int .i64 (.var 3)], post := [.abs 1] }
def cENewUnp : Ctr U :=
  { fn := 55, nin := 4, args := [.agg [.int .i64 (.var 0), .int .i64 (.var 1), .int .i64 (.var 2)], .int .i64 (.var 3)], heap := []
    pre := fun ins => ∃ a b n c, ins = [.i a, .i b, .i n, .i c], nout := 1
    out := fun ins => match ins with | [.i a, .i b, .i n, .i c] => [.u (.eunp (newEU b n c))] | _ => []
    ret := .hnd 0, post := [.abs 4] }
def cEUnpStep : Ctr U :=
  { fn := 67, nin := 2, args := [.hnd 0, .hnd 1], heap := [.abs 0, .abs 1]
    pre := fun ins => ∃ P M, ins = [.u (.eunp P), .u (.mem M)] ∧ P.ok, nout := 3
    out := fun ins => match ins with | [.u (.eunp P), .u (.mem M)] => [.u (.eunp (stepEU P M).1), .u (.mem (stepEU P M).2), .b true] | _ => []
    ret := .bool (.var 4), post := [.abs 2, .abs 3] }
def cEUnpErr : Ctr U :=
  { fn := 56, nin := 1, args := [.hnd 0], heap := [.abs 0]
    pre := fun ins => ∃ P, ins = [.u (.eunp P)] ∧ P.ok, nout := 2
    out := fun ins => match ins with | [.u (.eunp P)] => [.u (.eunp P), .i (errEU P)] | _ => []
    ret := .int .i64 (.var 2), post := [.abs 1] }
def cENewAdv : Ctr U :=
  { fn := 63, nin := 5, args := [.agg [.int .i64 (.var 0), .int .i64 (.var 1), .int .i64 (.var 2)], .int .i64 (.var 3), .int .i64 (.var 4)], heap := []
    pre := fun ins => ∃ a b n c p, ins = [.i a, .i b, .i n, .i c, .i p], nout := 1
    out := fun ins => match ins with | [.i a, .i b, .i n, .i c, .i p] => [.u (.eadv (newEA a b n c p))] | _ => []
    ret := .hnd 0, post := [.abs 5] }
def cEAdvStep : Ctr U :=
  { fn := 64, nin := 2, args := [.hnd 0, .hnd 1], heap := [.abs 0, .abs 1]
    pre := fun ins => ∃ P M, ins = [.u (.eadv P), .u (.mem M)] ∧ P.ok, nout := 3
    out := fun ins => match ins with | [.u (.eadv P), .u (.mem M)] => [.u (.eadv (stepEA P M).1), .u (.mem (stepEA P M).2), .b ((stepEA P M).1.line == -1)] | _ => []
    ret := .bool (.var 4), post := [.abs 2, .abs 3] }
def cEAdvErr : Ctr U :=
  { fn := 65, nin := 1, args := [.hnd 0], heap := [.abs 0]
    pre := fun ins => ∃ P, ins = [.u (.eadv P)] ∧ P.ok, nout := 2
    out := fun ins => match ins with | [.u (.eadv P)] => [.u (.eadv P), .i (errEA P)] | _ => []
    ret := .int .i64 (.var 2), post := [.abs 1] }
def advT (l k : Ex) : HE := .cells [.func (.func 101) [.ptr 0 0] [], .func (.func 102) [.ptr 0 0] [], .func (.func 103) [.ptr 0 0] [], .int .i64 l, .bool (.lit true), .int .i64 (.var 1), .int .i64 (.var 2), .int .i64 (.var 3), .int .i64 (.var 4), .int .i64 (.var 5), .int .i64 (.var 6), .int .u64 (.var 7), .int .i64 k] 122
def cTurn : Ctr U :=
  { fn := 122, nin := 10, args := [.ptr 0 0, .int .i64 (.var 9)], heap := [advT (.var 0) (.var 8)]
    pre := fun ins => ∃ l e a b n c p w k f, ins = [.i l, .i e, .i a, .i b, .i n, .i c, .i p, .i w, .i k, .i f] ∧ 0 ≤ f ∧ n ≤ 64, nout := 2
    out := fun ins => match ins with | [.i l, .i e, .i a, .i b, .i n, .i c, .i p, .i w, .i k, .i f] => [.i (if turnTo f c < n then 1 else 2), .i (if turnTo f c < n then turnTo f c else k)] | _ => []
    ret := .tuple [], post := [advT (.var 10) (.var 11)] }

/-! ### loops -/
def eFillInv (env : List (EV U)) : Prop := ∃ M a b n x0 x1 i, env = [.u (.mem M), .i a, .i b, .i n, x0, x1, .u (.mem (fillM (M.store a 0) b i.toNat)), .i i] ∧ 0 ≤ i ∧ i ≤ n ∧ 1 ≤ n ∧ n ≤ 64
def lEFill : LoopS U :=
  { fn := 124, rid := 1, nv := 2, tm := [(6, .int .i64 (.var 7))], hp := [(0, .abs 6)], reb := [], inv := eFillInv, mu := fun env => (gI env 3 - gI env 7).toNat }
def eFillNilInv (env : List (EV U)) : Prop := ∃ a b n x0 i, env = [.i a, .i b, .i n, x0, .i i] ∧ 0 ≤ i ∧ i ≤ n ∧ 1 ≤ n ∧ n ≤ 64
def lEFillNil : LoopS U :=
  { fn := 124, rid := 1, nv := 1, tm := [(6, .int .i64 (.var 4))], hp := [], reb := [], inv := eFillNilInv, mu := fun env => (gI env 2 - gI env 4).toNat }
def ePinnedInv (env : List (EV U)) : Prop := ∃ M a b n x3 i xs c, env = [.u (.mem M), .i a, .i b, .i n, .u (.mem M), .l M.W, .i M.W.length, x3, .i i, .l xs, .i c] ∧ 0 ≤ i ∧ i ≤ n ∧ 1 ≤ n ∧ n ≤ 64 ∧ c = xs.length ∧ i ≤ c ∧ xs.take i.toNat = pinnedL M b i.toNat
def lEPinned : LoopS U :=
  { fn := 124, rid := 1, nv := 3, tm := [(6, .int .i64 (.var 8))], hp := [(3, .cells [.slice 9 (.var 8) (.var 10)] 52), (9, .row .i64 3 9)], reb := [(9, 0)], inv := ePinnedInv, mu := fun env => (gI env 3 - gI env 8).toNat }
def ePinnedNilInv (env : List (EV U)) : Prop := ∃ a b n x3 i xs c, env = [.i a, .i b, .i n, x3, .i i, .l xs, .i c] ∧ 0 ≤ i ∧ i ≤ n ∧ 1 ≤ n ∧ n ≤ 64 ∧ c = xs.length ∧ i ≤ c ∧ xs.take i.toNat = List.replicate i.toNat (-1)
def lEPinnedNil : LoopS U :=
  { fn := 124, rid := 1, nv := 3, tm := [(6, .int .i64 (.var 4))], hp := [(2, .cells [.slice 7 (.var 4) (.var 6)] 52), (7, .row .i64 3 5)], reb := [(7, 0)], inv := ePinnedNilInv, mu := fun env => (gI env 2 - gI env 4).toNat }
def turnInv (env : List (EV U)) : Prop := ∃ l e a b n c p w k f x i, env = [.i l, .i e, .i a, .i b, .i n, .i c, .i p, .i w, .i k, .i f, x, .i i] ∧ 0 ≤ f ∧ n ≤ 64 ∧ 0 ≤ i ∧ (i ≤ n ∨ i = 0) ∧ i ≤ turnTo f c
def lTurn : LoopS U :=
  { fn := 124, rid := 1, nv := 1, tm := [(6, .int .i64 (.var 11))], hp := [], reb := [], inv := turnInv, mu := fun env => (gI env 4 - gI env 11).toNat }
def cxEF (P : Program) (l : LoopS U) : Cx U := { cx P ctsM with loops := [l] }
def ctsT : List (Ctr U) := ctsM ++ [cTurn]
end Go.Proofs.Ytjohihkbampbgaa
