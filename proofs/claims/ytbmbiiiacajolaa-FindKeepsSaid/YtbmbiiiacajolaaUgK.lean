/- Texts of this proof. -/
import Derived.Test.YtbmbiiiacajolaaUbK
namespace Go.Proofs.Ytbmbiiiacajolaa
set_option linter.unusedVariables false
set_option linter.unusedSimpArgs false
set_option linter.unusedSectionVars false
open Go Go.RowKit
def rowTs : List (Option IntKind) := [some .i64, some .i64, some .i64, some .i64]
def madePre (ins : List (EV U)) : Prop := ∃ H : Int, ∃ g, ∃ k : Nat, ∃ c : Int, ins = [.i H, .f g k, .i k, .i c] ∧ 1 ≤ H ∧ H ≤ 4 ∧ k ≤ 9
def madeRel (ins outs : List (EV U)) : Prop := ∃ E : LsE, ∃ g, ∃ k : Nat, ∃ c : Int, ins = [.i E.H, .f g k, .i k, .i c] ∧ outs = E.env ∧ E.n = k ∧ E.good E.X.nx0
def lsC4 : List HE := [.cells (iV' 4 13 [.hnd 2, .slice 3 (.var 17) (.var 18), .slice 4 (.var 17) (.var 19), .slice 5 (.var 17) (.var 20), .slice 6 (.var 17) (.var 21)]) 88, .abs 22, .row .u64 42 23, .row .i64 3 24, .row .i64 3 25, .row .i64 3 26]
def cLMade : Ctr U :=
 { fn := 47, nin := 4, args := [.int .i64 (.var 0), .slice 0 (.var 2) (.var 3)], heap := [.ro rowTs 1], pre := madePre, nout := 23, out := fun _ => []
   rel := some madeRel, ret := .ptr 1 0, post := .ro rowTs 1 :: lsC4 }
def ctsUa : List (Ctr U) := [cNew, cTFill, cPick, cAt, cStore, cLLinks]
def cxUa (P : Program) (l : List (LoopS U)) : Cx U := { cx P ctsUa with join := true, loops := l }
def lmaInv (env : List (EV U)) : Prop := ∃ H : Int, ∃ g, ∃ k : Nat, ∃ c : Int, ∃ x4 x5 x6 : EV U, ∃ s i key : Int, ∃ M : MemSt, ∃ ks : List Int, ∃ ck : Int, ∃ hs : List Int, ∃ ch : Int, ∃ is : List Int, ∃ ci : Int, ∃ ls : List Int, ∃ cl : Int,
 env = [.i H, .f g k, .i k, .i c, x4, x5, x6, .i (9 + 2 * s + H), .i (9 + 2 * s), .i H, .i 0, .i 1, .i s, .i (1 + s), .i (1 + 2 * s), .i 99, .i (2 + 2 * s), .i (3 + 2 * s), .i 3, .i (6 + 2 * s), .i i, .i key, .u (.mem M), .l ks, .i ck, .l hs, .i ch, .l is, .i ci, .l ls, .i cl] ∧ 1 ≤ H ∧ H ≤ 4 ∧ k ≤ 9 ∧ s = (if (k : Int) < 1 then 1 else (k : Int)) ∧ i ≤ k ∧ KL.L1 s H i ks hs is ls key M ∧ M.fine ∧ ck = ks.length ∧ ch = hs.length ∧ ci = is.length ∧ cl = ls.length ∧ i ≤ ck ∧ i ≤ ch ∧ i ≤ ci ∧ i ≤ cl ∧ (∀ j, 0 ≤ j → j < i → isW (nthL ks j))
def lmbInv (env : List (EV U)) : Prop := ∃ E : LsE, ∃ g, ∃ k : Nat, ∃ c : Int, ∃ x4 x5 x6 : EV U, ∃ key : Int, ∃ M : MemSt, ∃ l : Int,
 env = [.i E.H, .f g k, .i k, .i c, x4, x5, x6, .i (9 + 2 * E.s + E.H), .i (9 + 2 * E.s), .i E.H, .i 0, .i 1, .i E.s, .i (1 + E.s), .i (1 + 2 * E.s), .i 99, .i (2 + 2 * E.s), .i (3 + 2 * E.s), .i 3, .i (6 + 2 * E.s), .i E.n, .i key, .u (.mem M), .l E.ks, .i E.ck, .l E.hs, .i E.ch, .l E.is, .i E.ci, .l E.ls, .i E.cl, .u (.mem E.M), .i l] ∧ E.fits ∧ E.n = k ∧ 0 ≤ l ∧ l ≤ E.H ∧ E.X.Lay (nthL E.ls) l E.M ∧ ∀ i, 0 ≤ i → i < E.n → 0 ≤ nthL E.ls i ∧ nthL E.ls i ≤ nthL E.hs i
def lMaA : LoopS U :=
 { fn := 47, rid := 9, nv := 24, tm := [(10, .int .u64 (.var 21)), (11, .int .i64 (.var 20))]
   hp := [(1, .cells (iV' 7 13 []) 31), (2, .abs 22), (3, .cells (iV' 7 13 [.hnd 2, .slice 4 (.var 20) (.var 24), .slice 5 (.var 20) (.var 26), .slice 6 (.var 20) (.var 28), .slice 7 (.var 20) (.var 30)]) 88), (4, .row .u64 42 23), (5, .row .i64 3 25), (6, .row .i64 3 27), (7, .row .i64 3 29)]
   reb := [(4, 0), (5, 0), (6, 0), (7, 0)], inv := lmaInv, mu := fun env => (gI env 2 - gI env 20).toNat }
def lMaB : LoopS U :=
 { fn := 47, rid := 20, nv := 2, tm := [(13, .int .i64 (.var 32))], hp := [(2, .abs 31)], reb := [], inv := lmbInv, mu := fun env => (gI env 0 - gI env 32).toNat }
end Go.Proofs.Ytbmbiiiacajolaa
