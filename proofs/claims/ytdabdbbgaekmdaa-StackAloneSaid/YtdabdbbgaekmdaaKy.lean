/- Stacks: alone each ends: contracts. -/
import Derived.Test.YtdabdbbgaekmdaaKb
namespace Go.Proofs.Ytdabdbbgaekmdaa
set_option linter.unusedVariables false
set_option linter.unusedSimpArgs false
set_option linter.unusedSectionVars false
open Go

/-- lists of numbers, the first one from its second number on -/
def cSameIntsX : Ctr U :=
  { fn := 27, nin := 6, args := [.slicx 0 1 (.var 2) (.var 3), .slice 1 (.var 4) (.var 5)], heap := [.row .i64 3 0, .row .i64 3 1]
    pre := fun ins => ∃ xs ys a b c d, ins = [.l xs, .l ys, .i a, .i c, .i b, .i d] ∧ 1 ≤ a ∧ a ≤ xs.length ∧ a ≤ c ∧ 0 ≤ b ∧ b ≤ ys.length ∧ a ≤ 5000, nout := 1
    out := fun ins => match ins with | [.l xs, .l ys, .i a, _, .i b, _] => [.b (decide ((xs.take a.toNat).drop 1 = ys.take b.toNat))] | _ => []
    ret := .bool (.var 6), post := [.row .i64 3 0, .row .i64 3 1] }
def lSameIntsX : LoopS U :=
  { fn := 27, rid := 3, nv := 2, tm := [(5, .bool (.var 7)), (6, .int .i64 (.var 6))], hp := [], reb := []
    inv := fun env => ∃ k b, env.drop 6 = [.i k, .b b] ∧ 0 ≤ k ∧ k + 1 ≤ gI env 2 ∧ (b = true → gI env 2 = gI env 4 + 1 ∧ ((gL env 0).drop 1).take k.toNat = (gL env 1).take k.toNat) ∧ (b = false → ((gL env 0).drop 1).take (gI env 2 - 1).toNat ≠ (gL env 1).take (gI env 4).toNat)
    mu := fun env => (gI env 2 - gI env 6).toNat + if gB env 7 then 1 else 0 }
def cxSX (P : Program) : Cx U := { cx P [] with loops := [lSameIntsX] }
/-- what a core does -/
inductive CoreP where
  | none
  | pop (P : PopSt)
  | push (P : PushSt)
  | all (P : AllSt)
def CoreP.ok : CoreP → Prop | .none => True | .pop P => P.ok | .push P => P.ok | .all P => P.ok
def cpA : CoreP → U | .pop P => .pop P | _ => .popNil
def cpB : CoreP → U | .push P => .push P | _ => .pushNil
def cpC : CoreP → U | .all P => .all P | _ => .allNil
/-- a core behind its step, the memory -/
def stepC (o : CoreP) (M : MemSt) : CoreP × MemSt :=
  match o with
  | .none => (.none, M)
  | .pop P => (if (stepPo P M).1.line = 9 then .none else .pop (stepPo P M).1, (stepPo P M).2)
  | .push P => (if (stepPu P M).1.line = 9 then .none else .push (stepPu P M).1, (stepPu P M).2)
  | .all P => (if (stepAl P M).1.line = 9 then .none else .all (stepAl P M).1, (stepAl P M).2)
/-- what it has then, of a chain ahead of the step -/
def stepH (o : CoreP) (M : MemSt) (C H : List Int) : List Int :=
  match o with
  | .pop P => if (stepPo P M).1.line = 9 ∧ (toldS (stepPo P M).1.line (stepPo P M).1.i).2 = 0 then H ++ [(toldS (stepPo P M).1.line (stepPo P M).1.i).1] else H
  | .all P => if (stepAl P M).1.line = 9 ∧ (toldS (stepAl P M).1.line (stepAl P M).1.i).2 = 0 then H ++ C else H
  | _ => H
/-- was it so? (C, D: the chain ahead and behind) -/
def stepG (o : CoreP) (M : MemSt) (C D : List Int) (lays : Int) : Bool :=
  match o with
  | .pop P => if (stepPo P M).1.line = 9 then (if (toldS (stepPo P M).1.line (stepPo P M).1.i).2 = 0 then decide (0 < C.length) && decide (C[0]?.getD 0 = (toldS (stepPo P M).1.line (stepPo P M).1.i).1) else decide ((toldS (stepPo P M).1.line (stepPo P M).1.i).2 = 15) && decide (C.length = 0)) else true
  | .push P => if (stepPu P M).1.line = 9 then decide (errPu (stepPu P M).1 = 0) && decide (D.length = C.length + 1) && decide (D[0]?.getD 0 = lays) && decide (D.drop 1 = C) else true
  | .all P => if (stepAl P M).1.line = 9 then (if (toldS (stepAl P M).1.line (stepAl P M).1.i).2 = 0 then decide (0 < C.length) && decide (C[0]?.getD 0 = (toldS (stepAl P M).1.line (stepAl P M).1.i).1) && decide (D.length = 0) else decide ((toldS (stepAl P M).1.line (stepAl P M).1.i).2 = 15) && decide (C.length = 0)) else true
  | .none => true
def cSt0 : Ctr U :=
  { fn := 35, nin := 25, args := [.ptr 0 0, .agg [.int .i64 (.var 22), .int .i64 (.var 23), .int .i64 (.var 24)], .hnd 13], heap := [.cells [.hnd 1, .hnd 2, .hnd 3, .slice 4 (.var 4) (.var 5), .int .i64 (.var 6), .hnd 5, .hnd 6, .hnd 7, .slice 8 (.var 11) (.var 12), .int .i64 (.var 13), .hnd 9, .hnd 10, .hnd 11, .slice 12 (.var 18) (.var 19), .int .i64 (.var 20)] 69, .abs 0, .abs 1, .abs 2, .row .i64 3 3, .abs 7, .abs 8, .abs 9, .row .i64 3 10, .abs 14, .abs 15, .abs 16, .row .i64 3 17, .abs 21]
    pre := fun ins => ∃ x7 x8 x9 x10 x11 x12 x13 x14 x15 x16 x17 x18 x19 x20 o, ∃ H cc : List Int, ∃ lays M t l n, ins = [.u (cpA o), .u (cpB o), .u (cpC o), .l (H ++ cc), .i H.length, .i ((H.length + cc.length : Nat) : Int), .i lays, x7, x8, x9, x10, x11, x12, x13, x14, x15, x16, x17, x18, x19, x20, .u (.mem M), .i t, .i l, .i n] ∧ o.ok ∧ M.fine ∧ n ≤ 4096 ∧ H.length ≤ 900000, nout := 8, out := fun _ => []
    rel := some fun ins outs => ∃ x7 x8 x9 x10 x11 x12 x13 x14 x15 x16 x17 x18 x19 x20 o, ∃ H cc : List Int, ∃ lays M t l n, ∃ dd : List Int, ins = [.u (cpA o), .u (cpB o), .u (cpC o), .l (H ++ cc), .i H.length, .i ((H.length + cc.length : Nat) : Int), .i lays, x7, x8, x9, x10, x11, x12, x13, x14, x15, x16, x17, x18, x19, x20, .u (.mem M), .i t, .i l, .i n] ∧ outs = [.u (cpA (stepC o M).1), .u (cpB (stepC o M).1), .u (cpC (stepC o M).1), .l (stepH o M (chainS M t l n) H ++ dd), .i (stepH o M (chainS M t l n) H).length, .i (((stepH o M (chainS M t l n) H).length + dd.length : Nat) : Int), .u (.mem (stepC o M).2), .b (stepG o M (chainS M t l n) (chainS (stepC o M).2 t l n) lays)]
    ret := .bool (.var 32), post := [.cells [.hnd 14, .hnd 15, .hnd 16, .slice 17 (.var 29) (.var 30), .int .i64 (.var 6), .hnd 5, .hnd 6, .hnd 7, .slice 8 (.var 11) (.var 12), .int .i64 (.var 13), .hnd 9, .hnd 10, .hnd 11, .slice 12 (.var 18) (.var 19), .int .i64 (.var 20)] 69, .gone, .gone, .gone, .gone, .abs 7, .abs 8, .abs 9, .row .i64 3 10, .abs 14, .abs 15, .abs 16, .row .i64 3 17, .abs 31, .abs 25, .abs 26, .abs 27, .row .i64 3 28], nils := [(1, 10), (2, 17), (3, 24), (14, 10), (15, 17), (16, 24)] }
def cSt1 : Ctr U :=
  { fn := 35, nin := 25, args := [.ptr 0 5, .agg [.int .i64 (.var 22), .int .i64 (.var 23), .int .i64 (.var 24)], .hnd 13], heap := [.cells [.hnd 1, .hnd 2, .hnd 3, .slice 4 (.var 4) (.var 5), .int .i64 (.var 6), .hnd 5, .hnd 6, .hnd 7, .slice 8 (.var 11) (.var 12), .int .i64 (.var 13), .hnd 9, .hnd 10, .hnd 11, .slice 12 (.var 18) (.var 19), .int .i64 (.var 20)] 69, .abs 0, .abs 1, .abs 2, .row .i64 3 3, .abs 7, .abs 8, .abs 9, .row .i64 3 10, .abs 14, .abs 15, .abs 16, .row .i64 3 17, .abs 21]
    pre := fun ins => ∃ x0 x1 x2 x3 x4 x5 x6 x14 x15 x16 x17 x18 x19 x20 o, ∃ H cc : List Int, ∃ lays M t l n, ins = [x0, x1, x2, x3, x4, x5, x6, .u (cpA o), .u (cpB o), .u (cpC o), .l (H ++ cc), .i H.length, .i ((H.length + cc.length : Nat) : Int), .i lays, x14, x15, x16, x17, x18, x19, x20, .u (.mem M), .i t, .i l, .i n] ∧ o.ok ∧ M.fine ∧ n ≤ 4096 ∧ H.length ≤ 900000, nout := 8, out := fun _ => []
    rel := some fun ins outs => ∃ x0 x1 x2 x3 x4 x5 x6 x14 x15 x16 x17 x18 x19 x20 o, ∃ H cc : List Int, ∃ lays M t l n, ∃ dd : List Int, ins = [x0, x1, x2, x3, x4, x5, x6, .u (cpA o), .u (cpB o), .u (cpC o), .l (H ++ cc), .i H.length, .i ((H.length + cc.length : Nat) : Int), .i lays, x14, x15, x16, x17, x18, x19, x20, .u (.mem M), .i t, .i l, .i n] ∧ outs = [.u (cpA (stepC o M).1), .u (cpB (stepC o M).1), .u (cpC (stepC o M).1), .l (stepH o M (chainS M t l n) H ++ dd), .i (stepH o M (chainS M t l n) H).length, .i (((stepH o M (chainS M t l n) H).length + dd.length : Nat) : Int), .u (.mem (stepC o M).2), .b (stepG o M (chainS M t l n) (chainS (stepC o M).2 t l n) lays)]
    ret := .bool (.var 32), post := [.cells [.hnd 1, .hnd 2, .hnd 3, .slice 4 (.var 4) (.var 5), .int .i64 (.var 6), .hnd 14, .hnd 15, .hnd 16, .slice 17 (.var 29) (.var 30), .int .i64 (.var 13), .hnd 9, .hnd 10, .hnd 11, .slice 12 (.var 18) (.var 19), .int .i64 (.var 20)] 69, .abs 0, .abs 1, .abs 2, .row .i64 3 3, .gone, .gone, .gone, .gone, .abs 14, .abs 15, .abs 16, .row .i64 3 17, .abs 31, .abs 25, .abs 26, .abs 27, .row .i64 3 28], nils := [(5, 10), (6, 17), (7, 24), (14, 10), (15, 17), (16, 24)] }
def cSt2 : Ctr U :=
  { fn := 35, nin := 25, args := [.ptr 0 10, .agg [.int .i64 (.var 22), .int .i64 (.var 23), .int .i64 (.var 24)], .hnd 13], heap := [.cells [.hnd 1, .hnd 2, .hnd 3, .slice 4 (.var 4) (.var 5), .int .i64 (.var 6), .hnd 5, .hnd 6, .hnd 7, .slice 8 (.var 11) (.var 12), .int .i64 (.var 13), .hnd 9, .hnd 10, .hnd 11, .slice 12 (.var 18) (.var 19), .int .i64 (.var 20)] 69, .abs 0, .abs 1, .abs 2, .row .i64 3 3, .abs 7, .abs 8, .abs 9, .row .i64 3 10, .abs 14, .abs 15, .abs 16, .row .i64 3 17, .abs 21]
    pre := fun ins => ∃ x0 x1 x2 x3 x4 x5 x6 x7 x8 x9 x10 x11 x12 x13 o, ∃ H cc : List Int, ∃ lays M t l n, ins = [x0, x1, x2, x3, x4, x5, x6, x7, x8, x9, x10, x11, x12, x13, .u (cpA o), .u (cpB o), .u (cpC o), .l (H ++ cc), .i H.length, .i ((H.length + cc.length : Nat) : Int), .i lays, .u (.mem M), .i t, .i l, .i n] ∧ o.ok ∧ M.fine ∧ n ≤ 4096 ∧ H.length ≤ 900000, nout := 8, out := fun _ => []
    rel := some fun ins outs => ∃ x0 x1 x2 x3 x4 x5 x6 x7 x8 x9 x10 x11 x12 x13 o, ∃ H cc : List Int, ∃ lays M t l n, ∃ dd : List Int, ins = [x0, x1, x2, x3, x4, x5, x6, x7, x8, x9, x10, x11, x12, x13, .u (cpA o), .u (cpB o), .u (cpC o), .l (H ++ cc), .i H.length, .i ((H.length + cc.length : Nat) : Int), .i lays, .u (.mem M), .i t, .i l, .i n] ∧ outs = [.u (cpA (stepC o M).1), .u (cpB (stepC o M).1), .u (cpC (stepC o M).1), .l (stepH o M (chainS M t l n) H ++ dd), .i (stepH o M (chainS M t l n) H).length, .i (((stepH o M (chainS M t l n) H).length + dd.length : Nat) : Int), .u (.mem (stepC o M).2), .b (stepG o M (chainS M t l n) (chainS (stepC o M).2 t l n) lays)]
    ret := .bool (.var 32), post := [.cells [.hnd 1, .hnd 2, .hnd 3, .slice 4 (.var 4) (.var 5), .int .i64 (.var 6), .hnd 5, .hnd 6, .hnd 7, .slice 8 (.var 11) (.var 12), .int .i64 (.var 13), .hnd 14, .hnd 15, .hnd 16, .slice 17 (.var 29) (.var 30), .int .i64 (.var 20)] 69, .abs 0, .abs 1, .abs 2, .row .i64 3 3, .abs 7, .abs 8, .abs 9, .row .i64 3 10, .gone, .gone, .gone, .gone, .abs 31, .abs 25, .abs 26, .abs 27, .row .i64 3 28], nils := [(9, 10), (10, 17), (11, 24), (14, 10), (15, 17), (16, 24)] }
def ctsSy : List (Ctr U) := ctsST ++ [cSameIntsX]
def cxSy (P : Program) : Cx U := { cx P ctsSy with join := true }
end Go.Proofs.Ytdabdbbgaekmdaa
