/- Texts of this proof. -/
import Derived.Test.YtbmbiiiacajolaaUgK
namespace Go.Proofs.Ytbmbiiiacajolaa
set_option linter.unusedVariables false
set_option linter.unusedSimpArgs false
set_option linter.unusedSectionVars false
open Go Go.RowKit
def fkPre (ins : List (EV U)) : Prop := ∃ h : Int, ∃ g, ∃ k : Nat, ∃ c : Int, ∃ gl, ∃ kl : Nat, ∃ cl : Int, ins = [.i h, .f g k, .i k, .i c, .f gl kl, .i kl, .i cl]
def cFKeeps : Ctr U :=
 { fn := 7, nin := 7, args := [.int .i64 (.var 0), .slice 0 (.var 2) (.var 3), .slice 1 (.var 5) (.var 6)], heap := [.ro rowTs 1, .ro [some .i64] 4]
   pre := fkPre, nout := 1, out := fun _ => [.b true], ret := .bool (.var 7), post := [.ro rowTs 1, .ro [some .i64] 4] }
def ctsUi : List (Ctr U) := [cPick, cLMade, cLMarks, cLStep, cLEnd, cFNew, cFErr, boolC 6]
def cxUi (P : Program) (l : List (LoopS U)) : Cx U := { cx P ctsUi with join := true, loops := l }
def fO (o : Option FindSt) : U := match o with | none => .findNil | some F => .find F
def fOk (X : KL) (nx : Int → Int → Int) (low : Int → Int) (key : Int) (o : Option FindSt) : Prop := ∀ F, o = some F → ∃ s, X.At key nx low s ∧ s ≠ .over ∧ X.FRep key F s
def fAl (X : KL) (nx : Int → Int → Int) (low : Int → Int) (key st : Int) (o : Option FindSt) : Prop := ∀ F, o = some F → ∃ s q, X.At key nx low s ∧ X.FRep key F s ∧ X.Pot nx low s q ∧ st + q ≤ 2 * (X.H * (2 * X.n + 1))
structure FkG (E : LsE) (k : Nat) (p : Int) : Prop where
 n : E.n = k
 H : E.H = 1 + p
def fk1Inv (env : List (EV U)) : Prop := ∃ h : Int, ∃ g, ∃ k : Nat, ∃ c : Int, ∃ gl, ∃ kl : Nat, ∃ cl p : Int, ∃ E : LsE, ∃ M0 : MemSt, ∃ ls0 : List Int, ∃ o0 o1 o2 : Option FindSt, ∃ k0 k1 k2 i : Int, ∃ nx,
 env = [.i h, .f g k, .i k, .i c, .f gl kl, .i kl, .i cl, .b true, .i p, .i (9 + 2 * E.s + E.H), .i (9 + 2 * E.s), .i E.H, .i 0, .i 1, .i E.s, .i (1 + E.s), .i (1 + 2 * E.s), .i 99, .i (2 + 2 * E.s), .i (3 + 2 * E.s), .i 3, .i (6 + 2 * E.s), .i E.n, .i E.ck, .i E.ch, .i E.ci, .i E.cl, .u (.mem M0), .l E.ks, .l E.hs, .l E.is, .l ls0, .u (.mem E.M), .l E.ls, .u (fO o0), .u (fO o1), .u (fO o2), .i k0, .i k1, .i k2, .i i] ∧ FkG E k p ∧ kl ≤ 300 ∧ 0 ≤ i ∧ i ≤ kl ∧ E.good nx ∧ fOk E.X nx (nthL E.ls) k0 o0 ∧ fOk E.X nx (nthL E.ls) k1 o1 ∧ fOk E.X nx (nthL E.ls) k2 o2
def fk2Inv (env : List (EV U)) : Prop := ∃ h : Int, ∃ g, ∃ k : Nat, ∃ c : Int, ∃ gl, ∃ kl : Nat, ∃ cl p : Int, ∃ E : LsE, ∃ M0 : MemSt, ∃ ls0 : List Int, ∃ x1 x3 x4 x5 x9 : EV U, ∃ k0 k1 k2 : Int, ∃ o0 o1 o2 : Option FindSt, ∃ d : Int, ∃ nx,
 env = [.i h, .f g k, .i k, .i c, .f gl kl, .i kl, .i cl, .b true, .i p, .i (9 + 2 * E.s + E.H), .i (9 + 2 * E.s), .i E.H, .i 0, .i 1, .i E.s, .i (1 + E.s), .i (1 + 2 * E.s), .i 99, .i (2 + 2 * E.s), .i (3 + 2 * E.s), .i 3, .i (6 + 2 * E.s), .i E.n, .i E.ck, .i E.ch, .i E.ci, .i E.cl, .u (.mem M0), .l E.ks, .l E.hs, .l E.is, .l ls0, x1, .l E.ls, x3, x4, x5, .i k0, .i k1, .i k2, x9, .u (.mem E.M), .u (fO o0), .u (fO o1), .u (fO o2), .i d] ∧ FkG E k p ∧ 0 ≤ d ∧ d ≤ 3 ∧ E.good nx ∧ (d ≤ 0 → fOk E.X nx (nthL E.ls) k0 o0) ∧ (d ≤ 1 → fOk E.X nx (nthL E.ls) k1 o1) ∧ (d ≤ 2 → fOk E.X nx (nthL E.ls) k2 o2)
def fk3Inv (env : List (EV U)) : Prop := ∃ h : Int, ∃ g, ∃ k : Nat, ∃ c : Int, ∃ gl, ∃ kl : Nat, ∃ cl p : Int, ∃ E : LsE, ∃ M0 : MemSt, ∃ ls0 : List Int, ∃ x1 x3 x4 x5 x9 y1 y2 y3 y4 : EV U, ∃ k0 k1 k2 : Int, ∃ o0 o1 o2 : Option FindSt, ∃ d st : Int, ∃ nx,
 env = [.i h, .f g k, .i k, .i c, .f gl kl, .i kl, .i cl, .b true, .i p, .i (9 + 2 * E.s + E.H), .i (9 + 2 * E.s), .i E.H, .i 0, .i 1, .i E.s, .i (1 + E.s), .i (1 + 2 * E.s), .i 99, .i (2 + 2 * E.s), .i (3 + 2 * E.s), .i 3, .i (6 + 2 * E.s), .i E.n, .i E.ck, .i E.ch, .i E.ci, .i E.cl, .u (.mem M0), .l E.ks, .l E.hs, .l E.is, .l ls0, x1, .l E.ls, x3, x4, x5, .i k0, .i k1, .i k2, x9, y1, y2, y3, y4, .i d, .u (.mem E.M), .u (fO o0), .u (fO o1), .u (fO o2), .i st] ∧ FkG E k p ∧ 0 ≤ d ∧ d < 3 ∧ 0 ≤ st ∧ E.good nx ∧
  (d = 0 → fAl E.X nx (nthL E.ls) k0 st o0) ∧ (d = 1 → fAl E.X nx (nthL E.ls) k1 st o1) ∧ (d = 2 → fAl E.X nx (nthL E.ls) k2 st o2) ∧ (d < 1 → fOk E.X nx (nthL E.ls) k1 o1) ∧ (d < 2 → fOk E.X nx (nthL E.ls) k2 o2)
def lFk1 : LoopS U :=
 { fn := 7, rid := 10, nv := 9, tm := [(11, .int .i64 (.var 40))]
   hp := [(3, .abs 32), (7, .row .i64 3 33), (8, .cells [.hnd 10, .hnd 11, .hnd 12] 66), (9, .cells [.int .u64 (.var 37), .int .u64 (.var 38), .int .u64 (.var 39)] 42), (10, .abs 34), (11, .abs 35), (12, .abs 36)]
   reb := [(10, 15), (11, 15), (12, 15)], inv := fk1Inv, mu := fun env => (gI env 5 - gI env 40).toNat }
def lFk2 : LoopS U :=
 { fn := 7, rid := 26, nv := 5, tm := [(14, .int .i64 (.var 45))], hp := [(3, .abs 41), (10, .abs 42), (11, .abs 43), (12, .abs 44)], reb := [], inv := fk2Inv, mu := fun env => (3 - gI env 45).toNat }
def lFk3 : LoopS U :=
 { fn := 7, rid := 29, nv := 5, tm := [(15, .int .i64 (.var 50))], hp := [(3, .abs 46), (10, .abs 47), (11, .abs 48), (12, .abs 49)], reb := [], inv := fk3Inv, mu := fun env => (2 * ((1 + gI env 8) * (2 * gI env 22 + 1)) - gI env 50).toNat }
end Go.Proofs.Ytbmbiiiacajolaa
