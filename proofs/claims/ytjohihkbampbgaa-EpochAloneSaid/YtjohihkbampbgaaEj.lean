/- Epochs: a crew: contracts. -/
import Derived.Test.YtjohihkbampbgaaEcV
import Derived.Test.YtjohihkbampbgaaEb
import Derived.Test.YtjohihkbampbgaaSy
namespace Go.Proofs.Ytjohihkbampbgaa
set_option linter.unusedVariables false
set_option linter.unusedSimpArgs false
set_option linter.unusedSectionVars false
open Go

/-- what a core is within -/
inductive CoreE where
  | none
  | pin (P : EPinSt)
  | unp (P : EUnpSt)
  | adv (P : EAdvSt)
def coA : CoreE → U | .pin P => .epin P | _ => .epinNil
def coC : CoreE → U | .unp P => .eunp P | _ => .eunpNil
def coE : CoreE → U | .adv P => .eadv P | _ => .eadvNil
/-- the epoch that is now; a core's pin, as it lies there -/
def MemSt.ep (M : MemSt) : Int := M.W[0]?.getD 0
def MemSt.pn (M : MemSt) (c : Nat) : Int := M.W[1 + c]?.getD 0
def withinOk (M : MemSt) (a : Nat → Int) : Prop := M.W.length = 4 ∧ 0 ≤ M.ep ∧ M.ep ≤ 1000 ∧ ∀ c, c < 3 → 0 ≤ a c → M.pn c = a c + 1 ∧ (M.ep = a c ∨ M.ep = a c + 1)
def crewHp : List HE :=
  [.cells [.hnd 1, .slice 2 (.lit 3) (.lit 3), .slice 3 (.lit 3) (.lit 3), .slice 4 (.lit 3) (.lit 3), .slice 5 (.lit 3) (.lit 3)] 105, .abs 0,
   .cells [.hnd 6, .hnd 7, .hnd 8] 86, .cells [.hnd 9, .hnd 10, .hnd 11] 95, .cells [.hnd 12, .hnd 13, .hnd 14] 108,
   .cells [.int .i64 (.var 1), .int .i64 (.var 2), .int .i64 (.var 3)] 3, .abs 4, .abs 5, .abs 6, .abs 7, .abs 8, .abs 9, .abs 10, .abs 11, .abs 12]
def crewNils : List (Nat × Nat) := [(6, 13), (7, 13), (8, 13), (9, 18), (10, 18), (11, 18), (12, 23), (13, 23), (14, 23)]
def cWithin : Ctr U :=
  { fn := 100, nin := 13, args := [.ptr 0 0], heap := crewHp
    pre := fun ins => ∃ M a y0 y1 y2 y3 y4 y5 y6 y7 y8, ins = [.u (.mem M), .i (a 0), .i (a 1), .i (a 2), y0, y1, y2, y3, y4, y5, y6, y7, y8] ∧ withinOk M a, nout := 2
    out := fun ins => match ins with | x :: _ => [x, .b true] | _ => []
    ret := .bool (.var 14), post := crewHp.set 1 (.abs 13), nils := crewNils }
def ctsEJ : List (Ctr U) := ctsM ++ [cENow, cEPinned]
theorem hctsEJ : ∀ (ci : Nat) (c : Ctr U), ctsEJ[ci]? = some c → c.Holds objs Try.prog := ctsApp hctsM (by intro ci c h; match ci, h with | 0, h => cases h; exact hENow | 1, h => cases h; exact hEPinned | n + 2, h => cases h)

/-- what is so of a core, between acts -/
def coInv (M : MemSt) (a : Nat → Int) (c : Nat) : CoreE → Prop
  | .none => (a c < 0 → M.pn c = 0) ∧ (0 ≤ a c → M.pn c = a c + 1 ∧ (M.ep = a c ∨ M.ep = a c + 1))
  | .pin P => a c < 0 ∧ P.at_ = 0 ∧ P.pin = 1 + c ∧ P.err = 0 ∧ (P.line = 0 ∧ P.now = 0 ∨ P.line = 1 ∧ 0 ≤ P.now ∧ P.now ≤ M.ep ∨ P.line = 2 ∧ 0 ≤ P.now ∧ P.now ≤ M.ep ∧ M.pn c = P.now + 1)
  | .unp P => a c < 0 ∧ P = ⟨0, 1 + c, 0⟩
  | .adv P => 0 ≤ a c ∧ M.pn c = a c + 1 ∧ (M.ep = a c ∨ M.ep = a c + 1) ∧ P.at_ = 0 ∧ P.pins = 1 ∧ P.cores = 3 ∧ P.c = c ∧ P.p = a c ∧ P.err = 0 ∧
    (P.line = 0 ∧ P.next = 0 ∨ P.line = 1 ∧ P.w = a c ∧ 0 ≤ P.next ∧ P.next < 3 ∧ P.next ≠ c ∧ (M.ep = a c → ∀ d : Nat, d < 3 → d ≠ c → (d : Int) < P.next → 0 ≤ a d → a d = a c) ∨ P.line = 2 ∧ P.w = a c ∧ (M.ep = a c → ∀ d : Nat, d < 3 → d ≠ c → 0 ≤ a d → a d = a c))
def crewInv (M : MemSt) (a : Nat → Int) (o : Nat → CoreE) (n : Int) : Prop := M.W.length = 4 ∧ 0 ≤ M.ep ∧ M.ep ≤ n ∧ n ≤ 500 ∧ ∀ c, c < 3 → coInv M a c (o c)

def cEGuards : Ctr U :=
  { fn := 10, nin := 3, args := [.slice 0 (.var 1) (.var 2)], heap := [.ro [some .i64] 0]
    pre := fun ins => ∃ g, ∃ k : Nat, ∃ c, ins = [.f g k, .i k, .i c], nout := 1, out := fun _ => [.b true], ret := .bool (.var 3), post := [.ro [some .i64] 0] }
/-- the crew's memory, at first -/
def begunM : MemSt := fillE (.new 4) 0 1 3
def cBegun : Ctr U :=
  { fn := 59, nin := 0, args := [], heap := []
    pre := fun ins => ins = [], nout := 1, out := fun _ => [.u (.mem begunM)], ret := .ptr 0 0
    post := [.cells [.hnd 1, .slice 2 (.lit 3) (.lit 3), .slice 3 (.lit 3) (.lit 3), .slice 4 (.lit 3) (.lit 3), .slice 5 (.lit 3) (.lit 3)] 105, .abs 0, .cells [.nilp, .nilp, .nilp] 86, .cells [.nilp, .nilp, .nilp] 95, .cells [.nilp, .nilp, .nilp] 108, .cells [.int .i64 (.lit (-1)), .int .i64 (.lit (-1)), .int .i64 (.lit (-1))] 3] }
def ctsEB : List (Ctr U) := ctsM ++ [cEFill]
def playInv (env : List (EV U)) : Prop := ∃ g, ∃ k : Nat, ∃ c x3 x4 M a o i, env = [.f g k, .i k, .i c, x3, x4, .u (.mem M), .i (a 0), .i (a 1), .i (a 2), .u (coA (o 0)), .u (coA (o 1)), .u (coA (o 2)), .u (coC (o 0)), .u (coC (o 1)), .u (coC (o 2)), .u (coE (o 0)), .u (coE (o 1)), .u (coE (o 2)), .i i] ∧ 0 ≤ i ∧ i ≤ k ∧ k ≤ 300 ∧ crewInv M a o i
def lPlays : LoopS U :=
  { fn := 60, rid := 2, nv := 14, tm := [(5, .int .i64 (.var 18))]
    hp := [(2, .abs 5), (3, .cells [.hnd 7, .hnd 8, .hnd 9] 86), (4, .cells [.hnd 10, .hnd 11, .hnd 12] 95), (5, .cells [.hnd 13, .hnd 14, .hnd 15] 108), (6, .cells [.int .i64 (.var 6), .int .i64 (.var 7), .int .i64 (.var 8)] 3), (7, .abs 9), (8, .abs 10), (9, .abs 11), (10, .abs 12), (11, .abs 13), (12, .abs 14), (13, .abs 15), (14, .abs 16), (15, .abs 17)]
    reb := [(7, 13), (8, 13), (9, 13), (10, 18), (11, 18), (12, 18), (13, 23), (14, 23), (15, 23)], inv := playInv, mu := fun env => (gI env 1 - gI env 18).toNat }
def ctsEP : List (Ctr U) := ctsEA ++ [cEKnown, cEFill, cENow, cENewPin, cEPinStep, cEPinAt, cENewUnp, cEUnpStep, cEUnpErr, cENewAdv, cEAdvStep, cEAdvErr, cWithin, cBegun]
def cxEP (P : Program) : Cx U := { cx P ctsEP with loops := [lPlays] }
end Go.Proofs.Ytjohihkbampbgaa
