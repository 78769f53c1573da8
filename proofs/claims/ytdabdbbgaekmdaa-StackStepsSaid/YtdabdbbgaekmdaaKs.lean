/- Stacks: what a core is within, told side by side: contracts. -/
import Derived.Test.YtdabdbbgaekmdaaKrV
import Derived.Test.YtdabdbbgaekmdaaKiV
import Derived.Test.YtdabdbbgaekmdaaSy
namespace Go.Proofs.Ytdabdbbgaekmdaa
set_option linter.unusedVariables false
set_option linter.unusedSimpArgs false
set_option linter.unusedSectionVars false
open Go

/-- what a core is within -/
inductive CoreS where
  | none
  | pop (P : PopSt)
  | push (P : PushSt)
  | all (P : AllSt)
def koA : CoreS → U | .pop P => .pop P | _ => .popNil
def koB : CoreS → U | .pop P => .rpop P | _ => .rpopNil
def koC : CoreS → U | .push P => .push P | _ => .pushNil
def koD : CoreS → U | .push P => .rpush P | _ => .rpushNil
def koE : CoreS → U | .all P => .all P | _ => .allNil
def koF : CoreS → U | .all P => .rall P | _ => .rallNil
def CoreS.ok : CoreS → Prop | .none => True | .pop P => P.ok | .push P => P.ok | .all P => P.ok
def CoreS.step (o : CoreS) (M : MemSt) : CoreS × MemSt :=
  match o with
  | .none => (.none, M)
  | .pop P => (.pop (stepPo P M).1, (stepPo P M).2)
  | .push P => (.push (stepPu P M).1, (stepPu P M).2)
  | .all P => (.all (stepAl P M).1, (stepAl P M).2)
def CoreS.may (o : CoreS) (M : MemSt) (s : Bool) : CoreS × MemSt := if s = true then o.step M else (o, M)
def koOut (o : CoreS) (M : MemSt) (s : Bool) : List (EV U) :=
  [.u (koA (o.may M s).1), .u (koB (o.may M s).1), .u (koC (o.may M s).1), .u (koD (o.may M s).1), .u (koE (o.may M s).1), .u (koF (o.may M s).1), .u (.mem (o.may M s).2)] ++ (rmR (o.may M s).2 ++ [.b true])
def cToldS : Ctr U :=
  { fn := 41, nin := 16, args := [.agg [.hnd 0, .hnd 1, .hnd 2, .hnd 3, .hnd 4, .hnd 5], .hnd 6, .ptr 7 0, .bool (.var 15)], heap := [.abs 0, .abs 1, .abs 2, .abs 3, .abs 4, .abs 5, .abs 6, rmC 7 8, rmW 7]
    pre := fun ins => ∃ (o : CoreS) (M : MemSt) (s : Bool), ins = [.u (koA o), .u (koB o), .u (koC o), .u (koD o), .u (koE o), .u (koF o), .u (.mem M)] ++ (rmR M ++ [.b s]) ∧ o.ok ∧ M.fine, nout := 16
    out := fun ins => match ins with
      | [.u (.pop P), _, _, _, _, _, .u (.mem M), _, _, _, _, _, _, _, _, .b s] => koOut (.pop P) M s
      | [_, _, .u (.push P), _, _, _, .u (.mem M), _, _, _, _, _, _, _, _, .b s] => koOut (.push P) M s
      | [_, _, _, _, .u (.all P), _, .u (.mem M), _, _, _, _, _, _, _, _, .b s] => koOut (.all P) M s
      | [_, _, _, _, _, _, .u (.mem M), _, _, _, _, _, _, _, _, .b s] => koOut .none M s
      | _ => []
    ret := .bool (.var 31), post := [.abs 16, .abs 17, .abs 18, .abs 19, .abs 20, .abs 21, .abs 22, rmC 23 8, rmW 23] }
def cToldS1 : Ctr U :=
  { fn := 41, nin := 12, args := [.agg [.hnd 0, .hnd 1, .nilp, .nilp, .nilp, .nilp], .hnd 2, .ptr 3 0, .bool (.var 11)], heap := [.abs 0, .abs 1, .abs 2, rmC 3 4, rmW 3]
    pre := fun ins => ∃ P M s, ins = [.u (.pop P), .u (.rpop P), .u (.mem M)] ++ (rmR M ++ [.b s]) ∧ s = false ∧ P.ok ∧ M.fine, nout := 12
    out := fun ins => match ins with | [x, y, m, w, a1, a2, a3, a4, a5, a6, a7, _] => [x, y, m, w, a1, a2, a3, a4, a5, a6, a7, .b true] | _ => []
    ret := .bool (.var 23), post := [.abs 12, .abs 13, .abs 14, rmC 15 4, rmW 15] }
def cToldS2 : Ctr U :=
  { fn := 41, nin := 12, args := [.agg [.nilp, .nilp, .hnd 0, .hnd 1, .nilp, .nilp], .hnd 2, .ptr 3 0, .bool (.var 11)], heap := [.abs 0, .abs 1, .abs 2, rmC 3 4, rmW 3]
    pre := fun ins => ∃ P M s, ins = [.u (.push P), .u (.rpush P), .u (.mem M)] ++ (rmR M ++ [.b s]) ∧ s = false ∧ P.ok ∧ M.fine, nout := 12
    out := fun ins => match ins with | [x, y, m, w, a1, a2, a3, a4, a5, a6, a7, _] => [x, y, m, w, a1, a2, a3, a4, a5, a6, a7, .b true] | _ => []
    ret := .bool (.var 23), post := [.abs 12, .abs 13, .abs 14, rmC 15 4, rmW 15] }
def cToldS3 : Ctr U :=
  { fn := 41, nin := 12, args := [.agg [.nilp, .nilp, .nilp, .nilp, .hnd 0, .hnd 1], .hnd 2, .ptr 3 0, .bool (.var 11)], heap := [.abs 0, .abs 1, .abs 2, rmC 3 4, rmW 3]
    pre := fun ins => ∃ P M s, ins = [.u (.all P), .u (.rall P), .u (.mem M)] ++ (rmR M ++ [.b s]) ∧ s = false ∧ P.ok ∧ M.fine, nout := 12
    out := fun ins => match ins with | [x, y, m, w, a1, a2, a3, a4, a5, a6, a7, _] => [x, y, m, w, a1, a2, a3, a4, a5, a6, a7, .b true] | _ => []
    ret := .bool (.var 23), post := [.abs 12, .abs 13, .abs 14, rmC 15 4, rmW 15] }
def ctsKO : List (Ctr U) := [cPoStep, cRPoStep, cPoIndex, cQPoIndex, cPuStep, cRPuStep, cPuErr, cQPuErr, cAlStep, cRAlStep, cAlIndex, cQAlIndex]
theorem hctsKO : ∀ (ci : Nat) (c : Ctr U), ctsKO[ci]? = some c → c.Holds objs Try.prog := by
  intro ci c h
  match ci, h with
  | 0, h => cases h; exact hPoStep
  | 1, h => cases h; exact hRPoStep
  | 2, h => cases h; exact hPoIndex
  | 3, h => cases h; exact hQPoIndex
  | 4, h => cases h; exact hPuStep
  | 5, h => cases h; exact hRPuStep
  | 6, h => cases h; exact hPuErr
  | 7, h => cases h; exact hQPuErr
  | 8, h => cases h; exact hAlStep
  | 9, h => cases h; exact hRAlStep
  | 10, h => cases h; exact hAlIndex
  | 11, h => cases h; exact hQAlIndex
  | n + 12, h => cases h
end Go.Proofs.Ytdabdbbgaekmdaa
