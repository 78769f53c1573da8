/- Epochs: lists of numbers; what a core is within, told side by side: contracts. -/
import Derived.Test.YtjohihkbampbgaaEdV
import Derived.Test.YtjohihkbampbgaaEb
import Derived.Test.YtjohihkbampbgaaSy
namespace Go.Proofs.Ytjohihkbampbgaa
set_option linter.unusedVariables false
set_option linter.unusedSimpArgs false
set_option linter.unusedSectionVars false
open Go

/-- what a core is within -/
inductive CoreE where
  | none
  | pin (P : EPinSt)
  | unp (P : EUnpSt)
  | adv (P : EAdvSt)
def coA : CoreE → U | .pin P => .epin P | _ => .epinNil
def coB : CoreE → U | .pin P => .repin P | _ => .repinNil
def coC : CoreE → U | .unp P => .eunp P | _ => .eunpNil
def coD : CoreE → U | .unp P => .reunp P | _ => .reunpNil
def coE : CoreE → U | .adv P => .eadv P | _ => .eadvNil
def coF : CoreE → U | .adv P => .readv P | _ => .readvNil
def CoreE.ok : CoreE → Prop | .none => True | .pin P => P.ok | .unp P => P.ok | .adv P => P.ok
def CoreE.step (o : CoreE) (M : MemSt) : CoreE × MemSt :=
  match o with
  | .none => (.none, M)
  | .pin P => (.pin (stepEP P M).1, (stepEP P M).2)
  | .unp P => (.unp (stepEU P M).1, (stepEU P M).2)
  | .adv P => (.adv (stepEA P M).1, (stepEA P M).2)
def CoreE.may (o : CoreE) (M : MemSt) (s : Bool) : CoreE × MemSt := if s = true then o.step M else (o, M)
def cSameInts : Ctr U :=
  { fn := 31, nin := 6, args := [.slice 0 (.var 2) (.var 3), .slice 1 (.var 4) (.var 5)], heap := [.row .i64 3 0, .row .i64 3 1]
    pre := fun ins => ∃ xs ys a b c d, ins = [.l xs, .l ys, .i a, .i c, .i b, .i d] ∧ 0 ≤ a ∧ a ≤ xs.length ∧ 0 ≤ b ∧ b ≤ ys.length ∧ a < 2 ^ 62, nout := 1
    out := fun ins => match ins with | [.l xs, .l ys, .i a, _, .i b, _] => [.b (decide (xs.take a.toNat = ys.take b.toNat))] | _ => []
    ret := .bool (.var 6), post := [.row .i64 3 0, .row .i64 3 1] }
def lSameInts : LoopS U :=
  { fn := 31, rid := 3, nv := 2, tm := [(5, .bool (.var 7)), (6, .int .i64 (.var 6))], hp := [], reb := []
    inv := fun env => ∃ k b, env.drop 6 = [.i k, .b b] ∧ 0 ≤ k ∧ k ≤ gI env 2 ∧ (b = true → gI env 2 = gI env 4 ∧ (gL env 0).take k.toNat = (gL env 1).take k.toNat) ∧ (b = false → (gL env 0).take (gI env 2).toNat ≠ (gL env 1).take (gI env 4).toNat)
    mu := fun env => (gI env 2 - gI env 6).toNat + if gB env 7 then 1 else 0 }
def cOverInts : Ctr U :=
  { fn := 76, nin := 3, args := [.slice 0 (.var 1) (.var 2)], heap := [.row .i64 3 0]
    pre := fun ins => ∃ xs a c, ins = [.l xs, .i a, .i c] ∧ 0 ≤ a ∧ a ≤ xs.length ∧ a < 2 ^ 62, nout := 1
    out := fun ins => match ins with | [.l xs, .i a, _] => [.l (List.replicate a.toNat (-77) ++ xs.drop a.toNat)] | _ => []
    ret := .tuple [], post := [.row .i64 3 3] }
def overInv (env : List (EV U)) : Prop := ∃ xs a c i, env = [.l xs, .i a, .i c, .l (List.replicate i.toNat (-77) ++ xs.drop i.toNat), .i i] ∧ 0 ≤ i ∧ i ≤ a ∧ a ≤ xs.length ∧ a < 2 ^ 62
def lOverInts : LoopS U :=
  { fn := 76, rid := 1, nv := 2, tm := [(2, .int .i64 (.var 4))], hp := [(0, .row .i64 3 3)], reb := [], inv := overInv, mu := fun env => (gI env 1 - gI env 4).toNat }
def coOut (o : CoreE) (M : MemSt) (s : Bool) : List (EV U) :=
  [.u (coA (o.may M s).1), .u (coB (o.may M s).1), .u (coC (o.may M s).1), .u (coD (o.may M s).1), .u (coE (o.may M s).1), .u (coF (o.may M s).1), .u (.mem (o.may M s).2), .u (.rmem (o.may M s).2), .b true]
def cTold : Ctr U :=
  { fn := 73, nin := 9, args := [.agg [.hnd 0, .hnd 1, .hnd 2, .hnd 3, .hnd 4, .hnd 5], .hnd 6, .hnd 7, .bool (.var 8)], heap := [.abs 0, .abs 1, .abs 2, .abs 3, .abs 4, .abs 5, .abs 6, .abs 7]
    pre := fun ins => ∃ o M s, ins = [.u (coA o), .u (coB o), .u (coC o), .u (coD o), .u (coE o), .u (coF o), .u (.mem M), .u (.rmem M), .b s] ∧ o.ok ∧ M.fine, nout := 9
    out := fun ins => match ins with
      | [.u (.epin P), _, _, _, _, _, .u (.mem M), _, .b s] => coOut (.pin P) M s
      | [_, _, .u (.eunp P), _, _, _, .u (.mem M), _, .b s] => coOut (.unp P) M s
      | [_, _, _, _, .u (.eadv P), _, .u (.mem M), _, .b s] => coOut (.adv P) M s
      | [_, _, _, _, _, _, .u (.mem M), _, .b s] => coOut .none M s
      | _ => []
    ret := .bool (.var 17), post := [.abs 9, .abs 10, .abs 11, .abs 12, .abs 13, .abs 14, .abs 15, .abs 16] }
def cTold1 : Ctr U :=
  { fn := 73, nin := 5, args := [.agg [.hnd 0, .hnd 1, .nilp, .nilp, .nilp, .nilp], .hnd 2, .hnd 3, .bool (.var 4)], heap := [.abs 0, .abs 1, .abs 2, .abs 3]
    pre := fun ins => ∃ P M s, ins = [.u (.epin P), .u (.repin P), .u (.mem M), .u (.rmem M), .b s] ∧ s = false ∧ P.ok ∧ M.fine, nout := 5
    out := fun ins => match ins with | [x, y, m, w, _] => [x, y, m, w, .b true] | _ => []
    ret := .bool (.var 9), post := [.abs 5, .abs 6, .abs 7, .abs 8] }
def cTold2 : Ctr U :=
  { fn := 73, nin := 5, args := [.agg [.nilp, .nilp, .hnd 0, .hnd 1, .nilp, .nilp], .hnd 2, .hnd 3, .bool (.var 4)], heap := [.abs 0, .abs 1, .abs 2, .abs 3]
    pre := fun ins => ∃ P M s, ins = [.u (.eunp P), .u (.reunp P), .u (.mem M), .u (.rmem M), .b s] ∧ s = false ∧ P.ok ∧ M.fine, nout := 5
    out := fun ins => match ins with | [x, y, m, w, _] => [x, y, m, w, .b true] | _ => []
    ret := .bool (.var 9), post := [.abs 5, .abs 6, .abs 7, .abs 8] }
def cTold3 : Ctr U :=
  { fn := 73, nin := 5, args := [.agg [.nilp, .nilp, .nilp, .nilp, .hnd 0, .hnd 1], .hnd 2, .hnd 3, .bool (.var 4)], heap := [.abs 0, .abs 1, .abs 2, .abs 3]
    pre := fun ins => ∃ P M s, ins = [.u (.eadv P), .u (.readv P), .u (.mem M), .u (.rmem M), .b s] ∧ s = false ∧ P.ok ∧ M.fine, nout := 5
    out := fun ins => match ins with | [x, y, m, w, _] => [x, y, m, w, .b true] | _ => []
    ret := .bool (.var 9), post := [.abs 5, .abs 6, .abs 7, .abs 8] }
def ctsEO : List (Ctr U) := [cEPinStep, cQPinStep, cEPinAt, cQPinAt, cEUnpStep, cQUnpStep, cEUnpErr, cQUnpErr, cEAdvStep, cQAdvStep, cEAdvErr, cQAdvErr]
theorem hctsEO : ∀ (ci : Nat) (c : Ctr U), ctsEO[ci]? = some c → c.Holds objs Try.prog := by
  intro ci c h
  match ci, h with
  | 0, h => cases h; exact hEPinStep
  | 1, h => cases h; exact hQPinStep
  | 2, h => cases h; exact hEPinAt
  | 3, h => cases h; exact hQPinAt
  | 4, h => cases h; exact hEUnpStep
  | 5, h => cases h; exact hQUnpStep
  | 6, h => cases h; exact hEUnpErr
  | 7, h => cases h; exact hQUnpErr
  | 8, h => cases h; exact hEAdvStep
  | 9, h => cases h; exact hQAdvStep
  | 10, h => cases h; exact hEAdvErr
  | 11, h => cases h; exact hQAdvErr
  | n + 12, h => cases h
def cxEO (P : Program) (l : List (LoopS U)) : Cx U := { cx P [] with loops := l }
end Go.Proofs.Ytjohihkbampbgaa
