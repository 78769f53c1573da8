/- Epochs: alone each ends: contracts. -/
import Derived.Test.YtjohihkbampbgaaEn
namespace Go.Proofs.Ytjohihkbampbgaa
set_option linter.unusedVariables false
set_option linter.unusedSimpArgs false
set_option linter.unusedSectionVars false
open Go Go.RowKit

def crewT : HE := .cells [.hnd 1, .slice 2 (.lit 3) (.lit 3), .slice 3 (.lit 3) (.lit 3), .slice 4 (.lit 3) (.lit 3), .slice 5 (.lit 3) (.lit 3)] 105
def cPlays : Ctr U :=
  { fn := 60, nin := 4, args := [.ptr 0 0, .slice 6 (.var 2) (.var 3)]
    heap := [crewT, .abs 0, .cells [.nilp, .nilp, .nilp] 86, .cells [.nilp, .nilp, .nilp] 95, .cells [.nilp, .nilp, .nilp] 108, .cells [.int .i64 (.lit (-1)), .int .i64 (.lit (-1)), .int .i64 (.lit (-1))] 3, .ro [some .i64] 1]
    pre := fun ins => ∃ M g, ∃ k : Nat, ∃ c, ins = [.u (.mem M), .f g k, .i k, .i c] ∧ k ≤ 300 ∧ crewInv M (fun _ => -1) (fun _ => .none) 0, nout := 14
    out := fun _ => [], rel := some fun ins outs => ∃ M a o, outs = crewL M a o ++ [.b true] ∧ crewInv M a o (gI ins 2)
    ret := .bool (.var 17)
    post := [crewT, .abs 4, .cells [.hnd 7, .hnd 8, .hnd 9] 86, .cells [.hnd 10, .hnd 11, .hnd 12] 95, .cells [.hnd 13, .hnd 14, .hnd 15] 108, .cells [.int .i64 (.var 5), .int .i64 (.var 6), .int .i64 (.var 7)] 3, .ro [some .i64] 1, .abs 8, .abs 9, .abs 10, .abs 11, .abs 12, .abs 13, .abs 14, .abs 15, .abs 16]
    nils := [(7, 13), (8, 13), (9, 13), (10, 18), (11, 18), (12, 18), (13, 23), (14, 23), (15, 23)] }
def lCrew (fn : FuncId) (rid nv v : Nat) (s : Nat) (b : Nat) (inv : List (EV U) → Prop) (mu : List (EV U) → Nat) : LoopS U :=
  { fn := fn, rid := rid, nv := nv, tm := [(s, .int .i64 (.var (v + 13)))]
    hp := [(b, .abs v), (b + 1, .cells [.hnd 7, .hnd 8, .hnd 9] 86), (b + 2, .cells [.hnd 10, .hnd 11, .hnd 12] 95), (b + 3, .cells [.hnd 13, .hnd 14, .hnd 15] 108), (b + 4, .cells [.int .i64 (.var (v + 1)), .int .i64 (.var (v + 2)), .int .i64 (.var (v + 3))] 3), (7, .abs (v + 4)), (8, .abs (v + 5)), (9, .abs (v + 6)), (10, .abs (v + 7)), (11, .abs (v + 8)), (12, .abs (v + 9)), (13, .abs (v + 10)), (14, .abs (v + 11)), (15, .abs (v + 12))]
    reb := [(7, 13), (8, 13), (9, 13), (10, 18), (11, 18), (12, 18), (13, 23), (14, 23), (15, 23)], inv := inv, mu := mu }
def plInv (env : List (EV U)) : Prop := ∃ M0 g, ∃ k : Nat, ∃ cc M a o, ∃ i : Int, env = [.u (.mem M0), .f g k, .i k, .i cc] ++ (crewL M a o ++ [.i i]) ∧ 0 ≤ i ∧ i ≤ k ∧ k ≤ 300 ∧ crewInv M a o i
def ctsEPl : List (Ctr U) := ctsEA ++ [cENow, cWithin, cBusy, cBegins, cSteps]
def cxPl (P : Program) : Cx U := { cx P ctsEPl with loops := [lCrew 60 2 14 4 5 1 plInv (fun env => (gI env 2 - gI env 17).toNat)] }

def cEAlone : Ctr U :=
  { fn := 11, nin := 4, args := [.slice 0 (.var 1) (.var 2), .int .i64 (.var 3)], heap := [.ro [some .i64] 0]
    pre := fun ins => ∃ g, ∃ k : Nat, ∃ c w, ins = [.f g k, .i k, .i c, .i w], nout := 1, out := fun _ => [.b true], ret := .bool (.var 4), post := [.ro [some .i64] 0] }
/-- ahead of a core's steps alone: those below have ended -/
def al0Inv (env : List (EV U)) : Prop := ∃ g, ∃ k : Nat, ∃ cc w x5 x6 x7 x8 x9 x10 x11 x12 x13 x14 x15 x16 x17 x18 M a o, ∃ c : Nat,
  env = [.f g k, .i k, .i cc, .i w, .b true, x5, x6, x7, x8, x9, x10, x11, x12, x13, x14, x15, x16, x17, x18, .b true] ++ (crewL M a o ++ [.i c]) ∧ c ≤ 3 ∧ crewInv M a o (200 + 4 * c) ∧ ∀ d, d < c → o d = .none
def al1Inv (env : List (EV U)) : Prop := ∃ g, ∃ k : Nat, ∃ cc w x5 x6 x7 x8 x9 x10 x11 x12 x13 x14 x15 x16 x17 x18 M0 a0 o0 M a o, ∃ c j : Nat,
  env = [.f g k, .i k, .i cc, .i w, .b true, x5, x6, x7, x8, x9, x10, x11, x12, x13, x14, x15, x16, x17, x18, .b true] ++ (crewL M0 a0 o0 ++ .i c :: (crewL M a o ++ [.i j])) ∧ c < 3 ∧ j ≤ 4 ∧ crewInv M a o (200 + 4 * c + j) ∧ remE c M.ep (o c) + j ≤ 4 ∧ (1 ≤ j → ∀ P, o c ≠ .unp P) ∧ ∀ d, d < c → o d = .none
/-- may it advance, as far as was looked -/
def mayInv (n p : Nat) (env : List (EV U)) : Prop := ∃ pre m, ∃ d : Nat, env = pre ++ [.b m, .i d] ∧ pre.length = n ∧ d ≤ 3 ∧ (m = true ↔ gI pre (p + 1 + (gI pre 34).toNat) = gI pre (n - 1) ∧ ∀ e : Nat, e < d → gI pre (p + 1 + e) < 0 ∨ gI pre (p + 1 + e) = gI pre (n - 1))
def lMay (n : Nat) (inv : List (EV U) → Prop) : LoopS U := { fn := 11, rid := 28, nv := 2, tm := [(13, .bool (.var n)), (14, .int .i64 (.var (n + 1)))], hp := [], reb := [], inv := inv, mu := fun env => (3 - gI env (n + 1)).toNat, at_ := n }
def ctsEAl : List (Ctr U) := ctsEA ++ [cEKnown, cENow, cENewPin, cENewAdv, cEAdvStep, cEAdvErr, cBegun, cPlays, cBusy, cSteps]
def cxAl (P : Program) : Cx U := { cx P ctsEAl with loops := [lCrew 11 8 14 20 7 2 al0Inv (fun env => (3 - gI env 33).toNat), lCrew 11 11 14 34 8 2 al1Inv (fun env => (4 - gI env 47).toNat), lMay 37 (mayInv 37 20), lMay 86 (mayInv 86 69), lMay 39 (fun _ => False), lMay 55 (fun _ => False), lMay 71 (fun _ => False)] }
end Go.Proofs.Ytjohihkbampbgaa
