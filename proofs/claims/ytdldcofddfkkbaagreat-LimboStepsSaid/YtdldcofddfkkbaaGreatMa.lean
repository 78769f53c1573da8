/- Retires and Collects: what is said; contracts (printed by gen_lm.py). -/
import Derived.Test.YtdldcofddfkkbaaGreatMf
namespace Go.Proofs.YtdldcofddfkkbaaGreat
set_option linter.unusedVariables false
set_option linter.unusedSimpArgs false
set_option linter.unusedSectionVars false
open Go Go.RowKit

/-- numbers of these names -/
def va (l : List Nat) (r : List Bnd) : List Bnd := (l.map fun n => .ex (.var n)) ++ r
theorem va_map (e : List (EV U)) (l : List Nat) (r : List Bnd) : (va l r).map (Bnd.den e) = (l.map fun n => EV.i (gI e n)) ++ r.map (Bnd.den e) := by rw [va, List.map_append, List.map_map]; rfl
def topW (i w : Int) : Int := i + 1 + (w / 65536 + 1) % 281474976710656 * 65536
def turnTo (f c : Int) : Int := if f = c then f + 1 else f
namespace RetSt
def x (R : RetSt) (k : Nat) : Int := R.l[k]?.getD 0
def step (R : RetSt) (M : MemSt) : RetSt × MemSt :=
  if R.line = 0 then (⟨R.l, R.i, 1, IntKind.i64.wrap (R.x 9 + (M.load (R.x 6)).n % 4294967296 % 3), 1, 0, 0⟩, M.load (R.x 6))
  else if R.line = 1 then
    if R.pl = 1 then (⟨R.l, R.i, 1, R.st, 2, (M.load R.st).n, 0⟩, M.load R.st)
    else if R.pl = 2 then (⟨R.l, R.i, 1, R.st, 3, R.w, 0⟩, M.store (IntKind.i64.wrap (R.x 1 + R.i)) (idxW (R.x 2) R.w + 1))
    else (if (M.cas R.st R.w (topW R.i R.w)).h = true then ⟨R.l, R.i, 9, 0, 0, 0, 0⟩ else ⟨R.l, R.i, 1, R.st, 1, 0, 0⟩, M.cas R.st R.w (topW R.i R.w))
  else (R, M)
def new (l : List Int) (s i : Int) : RetSt := if i < 0 ∨ s ≤ i then ⟨l, i, 9, 0, 0, 0, 3⟩ else ⟨l, i, 0, 0, 0, 0, 0⟩
def told (R : RetSt) : Int := if R.line = 9 then R.err else 14
end RetSt
namespace ColSt
def x (C : ColSt) (k : Nat) : Int := C.l[k]?.getD 0
def ended (l : List Int) (n e : Int) : ColSt := ⟨l, 9, 0, 0, 0, 0, 0, 0, 0, 0, 0, 0, n, 0, 0, 0, 0, e⟩
def turn (C : ColSt) (w f : Int) : ColSt :=
  if turnTo f C.c < C.x 8 then ⟨C.l, 0, C.c, C.p, 1, w, turnTo f C.c, C.at_, 0, 0, 0, 0, 0, 0, 0, 0, 0, 0⟩ else ⟨C.l, 0, C.c, C.p, 2, w, 0, C.at_, 0, 0, 0, 0, 0, 0, 0, 0, 0, 0⟩
def all (C : ColSt) (ll lw : Int) : ColSt := ⟨C.l, 1, 0, 0, 0, 0, 0, C.at_, ll, lw, 0, 0, 0, 0, 0, 0, 0, 0⟩
def link (C : ColSt) (i n : Int) : ColSt := ⟨C.l, 2, 0, 0, 0, 0, 0, 0, 0, 0, i, 0, n, 0, 0, 0, 0, 0⟩
def free (C : ColSt) (nx fl fg pl pw : Int) : ColSt := ⟨C.l, 3, 0, 0, 0, 0, 0, 0, 0, 0, C.i, nx, C.n, fl, fg, pl, pw, 0⟩
def freed (C : ColSt) : ColSt := if C.nx < 0 ∨ C.x 2 ≤ C.nx ∨ C.x 2 ≤ C.n + 1 then ended C.l (C.n + 1) 0 else C.link C.nx (C.n + 1)
def step (C : ColSt) (M : MemSt) : ColSt × MemSt :=
  if C.line = 0 then
    if C.al = 0 then (if (M.load (C.x 6)).n % 4294967296 = C.p then C.turn (M.load (C.x 6)).n 0 else ended C.l 0 14, M.load (C.x 6))
    else if C.al = 1 then
      (if (M.load (IntKind.i64.wrap (C.x 7 + C.an))).n = 0 ∨ (M.load (IntKind.i64.wrap (C.x 7 + C.an))).n = C.p + 1 then C.turn C.aw (C.an + 1) else ended C.l 0 14, M.load (IntKind.i64.wrap (C.x 7 + C.an)))
    else (if (M.cas (C.x 6) C.aw (C.p + 1)).h = true then C.all 1 0 else ended C.l 0 14, M.cas (C.x 6) C.aw (C.p + 1))
  else if C.line = 1 then
    if C.ll = 1 then (if idxW (C.x 2) (M.load C.at_).n < 0 then ended C.l 0 0 else C.all 2 (M.load C.at_).n, M.load C.at_)
    else (if (M.cas C.at_ C.lw (topW (-1) C.lw)).h = true then C.link (idxW (C.x 2) C.lw) 0 else C.all 1 0, M.cas C.at_ C.lw (topW (-1) C.lw))
  else if C.line = 2 then (C.free ((M.load (IntKind.i64.wrap (C.x 1 + C.i))).n % 65536 - 1) 0 0 0 0, M.load (IntKind.i64.wrap (C.x 1 + C.i)))
  else if C.line = 3 then
    if C.fl = 0 then (if C.x 5 ≤ (M.load (IntKind.i64.wrap (C.x 3 + C.i))).n % 4294967296 then C.free C.nx 3 0 0 0 else C.free C.nx 1 (M.load (IntKind.i64.wrap (C.x 3 + C.i))).n 0 0, M.load (IntKind.i64.wrap (C.x 3 + C.i)))
    else if C.fl = 1 then (C.free C.nx 2 0 1 0, M.store (IntKind.i64.wrap (C.x 3 + C.i)) (IntKind.u64.wrap (C.fg + 1)))
    else if C.fl = 2 then
      if C.pl = 1 then (C.free C.nx 2 0 2 (M.load (C.x 0)).n, M.load (C.x 0))
      else if C.pl = 2 then (C.free C.nx 2 0 3 C.pw, M.store (IntKind.i64.wrap (C.x 1 + C.i)) (idxW (C.x 2) C.pw + 1))
      else (if (M.cas (C.x 0) C.pw (topW C.i C.pw)).h = true then C.freed else C.free C.nx 2 0 1 0, M.cas (C.x 0) C.pw (topW C.i C.pw))
    else (C.freed, M.add (C.x 4) 1)
  else (C, M)
def new (l : List Int) (ec tp c p : Int) : ColSt := if c < 0 ∨ ec ≤ c ∨ p < 0 then ended l 0 3 else ⟨l, 0, c, p, 0, 0, 0, IntKind.i64.wrap (tp + (p + 2) % 3), 0, 0, 0, 0, 0, 0, 0, 0, 0, 0⟩
def many (C : ColSt) : Int := if C.line = 9 ∧ C.err = 0 then C.n else 0
def told (C : ColSt) : Int := if C.line = 9 then C.err else 14
end ColSt

def cGetTop : Ctr U :=
  { fn := 81, nin := 1, args := [.int .u64 (.var 0)], heap := []
    pre := fun ins => ∃ w, ins = [.i w] ∧ isW w, nout := 2
    out := fun ins => match ins with | [.i w] => [.i (w % 65536 - 1), .i (w / 65536)] | _ => []
    ret := .tuple [.agg [.int .i64 (.var 1), .int .i64 (.var 2)], .int .i64 (.lit 0)], post := [] }
def cPuT : Ctr U :=
  { fn := 314, nin := 2, args := [.agg [.int .i64 (.var 0), .int .i64 (.var 1)]], heap := []
    pre := fun ins => ∃ i t, ins = [.i i, .i t] ∧ -1 ≤ i ∧ i ≤ 65534 ∧ 0 ≤ t ∧ t < 281474976710656, nout := 2
    out := fun ins => match ins with | [.i i, .i t] => [.i (i + 1 + t * 65536), .i 0] | _ => []
    ret := .tuple [.int .u64 (.var 2), .int .i64 (.var 3)], post := [] }
def stk3 : SV := .agg [.int .i64 (.var 0), .int .i64 (.var 1), .int .i64 (.var 2)]
def cRead : Ctr U :=
  { fn := 288, nin := 4, args := [stk3, .int .u64 (.var 3)], heap := []
    pre := fun ins => ∃ a b n w, ins = [.i a, .i b, .i n, .i w] ∧ isW w, nout := 1
    out := fun ins => match ins with | [.i a, .i b, .i n, .i w] => [.i (idxW n w)] | _ => []
    ret := .int .i64 (.var 4), post := [] }
def cQIdx : Ctr U :=
  { fn := 193, nin := 4, args := [stk3, .int .u64 (.var 3)], heap := []
    pre := fun ins => ∃ a b n w, ins = [.i a, .i b, .i n, .i w] ∧ isW w, nout := 1
    out := fun ins => match ins with | [.i a, .i b, .i n, .i w] => [.i (idxW n w)] | _ => []
    ret := .int .i64 (.var 4), post := [] }
def cQTop : Ctr U :=
  { fn := 256, nin := 2, args := [.int .i64 (.var 0), .int .u64 (.var 1)], heap := []
    pre := fun ins => ∃ i w, ins = [.i i, .i w] ∧ -1 ≤ i ∧ i ≤ 65534 ∧ isW w, nout := 1
    out := fun ins => match ins with | [.i i, .i w] => [.i (topW i w)] | _ => []
    ret := .int .u64 (.var 2), post := [] }
def advT (l k : Ex) : HE := .cells [.func (.func 146) [.ptr 0 0] [], .func (.func 147) [.ptr 0 0] [], .func (.func 148) [.ptr 0 0] [], .int .i64 l, .bool (.lit true), .int .i64 (.var 1), .int .i64 (.var 2), .int .i64 (.var 3), .int .i64 (.var 4), .int .i64 (.var 5), .int .i64 (.var 6), .int .u64 (.var 7), .int .i64 k] 223
def cTurn : Ctr U :=
  { fn := 241, nin := 10, args := [.ptr 0 0, .int .i64 (.var 9)], heap := [advT (.var 0) (.var 8)]
    pre := fun ins => ∃ l e a b n c p w k f, ins = [.i l, .i e, .i a, .i b, .i n, .i c, .i p, .i w, .i k, .i f] ∧ 0 ≤ f ∧ n ≤ 64, nout := 2
    out := fun ins => match ins with | [.i l, .i e, .i a, .i b, .i n, .i c, .i p, .i w, .i k, .i f] => [.i (if turnTo f c < n then 1 else 2), .i (if turnTo f c < n then turnTo f c else k)] | _ => []
    ret := .tuple [], post := [advT (.var 10) (.var 11)] }
def turnInv (env : List (EV U)) : Prop := ∃ l e a b n c p w k f x i, env = [.i l, .i e, .i a, .i b, .i n, .i c, .i p, .i w, .i k, .i f, x, .i i] ∧ 0 ≤ f ∧ n ≤ 64 ∧ 0 ≤ i ∧ (i ≤ n ∨ i = 0) ∧ i ≤ turnTo f c
def lTurn : LoopS U :=
  { fn := 301, rid := 1, nv := 1, tm := [(6, .int .i64 (.var 11))], hp := [], reb := [], inv := turnInv, mu := fun env => (gI env 4 - gI env 11).toNat }
def cAdd : Ctr U :=
  { fn := 119, nin := 3, args := [.hnd 0, .int .i64 (.var 1), .int .u64 (.var 2)], heap := [.abs 0]
    pre := fun ins => ∃ M at_ x, ins = [.u (.mem M), .i at_, .i x], nout := 2
    out := fun ins => match ins with | [.u (.mem M), .i at_, .i x] => [.u (.mem (M.add at_ x)), .i (M.add at_ x).n] | _ => []
    ret := .int .u64 (.var 4), post := [.abs 3] }
def cQAdd : Ctr U :=
  { fn := 230, nin := 3, args := [.hnd 0, .int .i64 (.var 1), .int .u64 (.var 2)], heap := [.abs 0]
    pre := fun ins => ∃ M at_ x, ins = [.u (.rmem M), .i at_, .i x] ∧ M.W.length ≤ 4096, nout := 2
    out := fun ins => match ins with | [.u (.rmem M), .i at_, .i x] => [.u (.rmem (M.add at_ x)), .i (M.add at_ x).n] | _ => []
    ret := .int .u64 (.var 4), post := [.abs 3] }
def limW (j : Nat) : SV := .agg [.int .i64 (.var j), .int .i64 (.var (j + 1)), .int .i64 (.var (j + 2)), .int .i64 (.var (j + 3)), .int .i64 (.var (j + 4)), .int .i64 (.var (j + 5)), .int .i64 (.var (j + 6)), .int .i64 (.var (j + 7)), .int .i64 (.var (j + 8)), .int .i64 (.var (j + 9))]
def retPre (ins : List (EV U)) : Prop := ∃ t ls s g wo lm ea ep ec tp i : Int, ins = [.i t, .i ls, .i s, .i g, .i wo, .i lm, .i ea, .i ep, .i ec, .i tp, .i i] ∧ s ≤ 4096
def cRNew : Ctr U :=
  { fn := 22, nin := 11, args := [limW 0, .int .i64 (.var 10)], heap := [], pre := retPre, nout := 1
    out := fun ins => match ins with | [.i t, .i ls, .i s, .i g, .i wo, .i lm, .i ea, .i ep, .i ec, .i tp, .i i] => [.u (.ret (.new [t, ls, s, g, wo, lm, ea, ep, ec, tp] s i))] | _ => [], ret := .hnd 0, post := [.abs 11] }
def cQRNew : Ctr U :=
  { fn := 101, nin := 11, args := [limW 0, .int .i64 (.var 10)], heap := [], pre := retPre, nout := 1
    out := fun ins => match ins with | [.i t, .i ls, .i s, .i g, .i wo, .i lm, .i ea, .i ep, .i ec, .i tp, .i i] => [.u (.rret (.new [t, ls, s, g, wo, lm, ea, ep, ec, tp] s i))] | _ => [], ret := .hnd 0, post := [.abs 11] }
def cRStep : Ctr U :=
  { fn := 17, nin := 2, args := [.hnd 0, .hnd 1], heap := [.abs 0, .abs 1]
    pre := fun ins => ∃ R M, ins = [.u (.ret R), .u (.mem M)] ∧ M.fine, nout := 3
    out := fun ins => match ins with | [.u (.ret R), .u (.mem M)] => [.u (.ret (R.step M).1), .u (.mem (R.step M).2), .b ((R.step M).1.line == 9)] | _ => []
    ret := .bool (.var 4), post := [.abs 2, .abs 3] }
def cQRStep : Ctr U :=
  { fn := 97, nin := 2, args := [.hnd 0, .hnd 1], heap := [.abs 0, .abs 1]
    pre := fun ins => ∃ R M, ins = [.u (.rret R), .u (.rmem M)] ∧ M.fine, nout := 3
    out := fun ins => match ins with | [.u (.rret R), .u (.rmem M)] => [.u (.rret (R.step M).1), .u (.rmem (R.step M).2), .b ((R.step M).1.line == 9)] | _ => []
    ret := .bool (.var 4), post := [.abs 2, .abs 3] }
def cRErr : Ctr U :=
  { fn := 19, nin := 1, args := [.hnd 0], heap := [.abs 0], pre := fun ins => ∃ R, ins = [.u (.ret R)], nout := 2
    out := fun ins => match ins with | [.u (.ret R)] => [.u (.ret R), .i R.told] | _ => [], ret := .int .i64 (.var 2), post := [.abs 1] }
def cQRErr : Ctr U :=
  { fn := 98, nin := 1, args := [.hnd 0], heap := [.abs 0], pre := fun ins => ∃ R, ins = [.u (.rret R)], nout := 2
    out := fun ins => match ins with | [.u (.rret R)] => [.u (.rret R), .i R.told] | _ => [], ret := .int .i64 (.var 2), post := [.abs 1] }
def colPre (ins : List (EV U)) : Prop := ∃ t ls s g wo lm ea ep ec tp c p : Int, ins = [.i t, .i ls, .i s, .i g, .i wo, .i lm, .i ea, .i ep, .i ec, .i tp, .i c, .i p] ∧ 1 ≤ s ∧ s ≤ 4096 ∧ ec ≤ 64 ∧ 0 ≤ lm ∧ lm ≤ 4294967295 ∧ p < 9223372036854775808
def cCNew : Ctr U :=
  { fn := 23, nin := 12, args := [limW 0, .int .i64 (.var 10), .int .i64 (.var 11)], heap := [], pre := colPre, nout := 1
    out := fun ins => match ins with | [.i t, .i ls, .i s, .i g, .i wo, .i lm, .i ea, .i ep, .i ec, .i tp, .i c, .i p] => [.u (.col (.new [t, ls, s, g, wo, lm, ea, ep, ec, tp] ec tp c p))] | _ => [], ret := .hnd 0, post := [.abs 12] }
def cQCNew : Ctr U :=
  { fn := 102, nin := 12, args := [limW 0, .int .i64 (.var 10), .int .i64 (.var 11)], heap := [], pre := colPre, nout := 1
    out := fun ins => match ins with | [.i t, .i ls, .i s, .i g, .i wo, .i lm, .i ea, .i ep, .i ec, .i tp, .i c, .i p] => [.u (.rcol (.new [t, ls, s, g, wo, lm, ea, ep, ec, tp] ec tp c p))] | _ => [], ret := .hnd 0, post := [.abs 12] }
def cCStep : Ctr U :=
  { fn := 18, nin := 2, args := [.hnd 0, .hnd 1], heap := [.abs 0, .abs 1]
    pre := fun ins => ∃ C M, ins = [.u (.col C), .u (.mem M)] ∧ M.fine, nout := 3
    out := fun ins => match ins with | [.u (.col C), .u (.mem M)] => [.u (.col (C.step M).1), .u (.mem (C.step M).2), .b ((C.step M).1.line == 9)] | _ => []
    ret := .bool (.var 4), post := [.abs 2, .abs 3] }
/-- the same, of Collects of which p holds -/
def cCStepP (p : ColSt → Prop) : Ctr U := { cCStep with pre := fun ins => ∃ C M, ins = [.u (.col C), .u (.mem M)] ∧ M.fine ∧ p C }
def cQCStep : Ctr U :=
  { fn := 99, nin := 2, args := [.hnd 0, .hnd 1], heap := [.abs 0, .abs 1]
    pre := fun ins => ∃ C M, ins = [.u (.rcol C), .u (.rmem M)] ∧ M.fine, nout := 3
    out := fun ins => match ins with | [.u (.rcol C), .u (.rmem M)] => [.u (.rcol (C.step M).1), .u (.rmem (C.step M).2), .b ((C.step M).1.line == 9)] | _ => []
    ret := .bool (.var 4), post := [.abs 2, .abs 3] }
def cCMany : Ctr U :=
  { fn := 16, nin := 1, args := [.hnd 0], heap := [.abs 0], pre := fun ins => ∃ C, ins = [.u (.col C)], nout := 3
    out := fun ins => match ins with | [.u (.col C)] => [.u (.col C), .i C.many, .i C.told] | _ => [], ret := .tuple [.int .i64 (.var 2), .int .i64 (.var 3)], post := [.abs 1] }
def cQCMany : Ctr U :=
  { fn := 100, nin := 1, args := [.hnd 0], heap := [.abs 0], pre := fun ins => ∃ C, ins = [.u (.rcol C)], nout := 3
    out := fun ins => match ins with | [.u (.rcol C)] => [.u (.rcol C), .i C.many, .i C.told] | _ => [], ret := .tuple [.int .i64 (.var 2), .int .i64 (.var 3)], post := [.abs 1] }
def isBoth (ins : List (EV U)) : Prop := (∃ R M, ins = [.u (.ret R), .u (.rret R), .u .colNil, .u .rcolNil, .u (.mem M), .u (.rmem M)] ∧ M.fine) ∨ (∃ C M, ins = [.u .retNil, .u .rretNil, .u (.col C), .u (.rcol C), .u (.mem M), .u (.rmem M)] ∧ M.fine) ∨ (∃ M, ins = [.u .retNil, .u .rretNil, .u .colNil, .u .rcolNil, .u (.mem M), .u (.rmem M)] ∧ M.fine)
def cBStep : Ctr U :=
  { fn := 33, nin := 6, args := [.agg [.hnd 0, .hnd 1, .hnd 2, .hnd 3], .hnd 4, .hnd 5], heap := [.abs 0, .abs 1, .abs 2, .abs 3, .abs 4, .abs 5]
    pre := isBoth, nout := 7
    out := fun ins => match ins with
      | [.u (.ret R), .u (.rret _), c, d, .u (.mem M), .u (.rmem _)] => [.u (.ret (R.step M).1), .u (.rret (R.step M).1), c, d, .u (.mem (R.step M).2), .u (.rmem (R.step M).2), .b true]
      | [a, b, .u (.col C), .u (.rcol _), .u (.mem M), .u (.rmem _)] => [a, b, .u (.col (C.step M).1), .u (.rcol (C.step M).1), .u (.mem (C.step M).2), .u (.rmem (C.step M).2), .b true]
      | [a, b, c, d, m, w] => [a, b, c, d, m, w, .b true] | _ => []
    ret := .bool (.var 12), post := [.abs 6, .abs 7, .abs 8, .abs 9, .abs 10, .abs 11] }
def ctsKR : List (Ctr U) := [cGetTop, cPuT]
def ctsMr : List (Ctr U) := [cLoad, cStore, cCAS, cGetTop, cPuT, cRead]
def ctsMq : List (Ctr U) := [cQLoad, cQStore, cQCAS, cQIdx, cQTop]
def ctsMc : List (Ctr U) := [cLoad, cStore, cCAS, cGetTop, cPuT, cRead, cTurn, cAdd]
def ctsMd : List (Ctr U) := [cQLoad, cQStore, cQCAS, cQIdx, cQTop, cQAdd]
def ctsMb : List (Ctr U) := [cRStep, cQRStep, cRErr, cQRErr, cCStep, cQCStep, cCMany, cQCMany]
def cxEF (P : Program) (l : LoopS U) : Cx U := { cx P ctsM with loops := [l] }
def cxMi (P : Program) : Cx U := { cx P [] with join := true }
def cxMr (P : Program) : Cx U := { cx P ctsMr with join := true }
def cxMq (P : Program) : Cx U := { cx P ctsMq with join := true }
def cxMc (P : Program) : Cx U := { cx P ctsMc with join := true }
def cxMd (P : Program) : Cx U := { cx P ctsMd with join := true }
def cxMb (P : Program) : Cx U := { cx P ctsMb with join := true }
end Go.Proofs.YtdldcofddfkkbaaGreat
