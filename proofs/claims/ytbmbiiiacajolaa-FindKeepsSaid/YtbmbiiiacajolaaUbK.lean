/- Texts of this proof. -/
import Derived.Test.YtbmbiiiacajolaaUaK
import Derived.Test.YtbmbiiiacajolaaWxK
import Derived.Test.YtbmbiiiacajolaaLtK
namespace Go.Proofs.Ytbmbiiiacajolaa
set_option linter.unusedVariables false
set_option linter.unusedSimpArgs false
set_option linter.unusedSectionVars false
open Go Go.RowKit
def iV' : Nat → Nat → List SV → List SV
 | _, 0, r => r
 | a, n + 1, r => .int .i64 (.var a) :: iV' (a + 1) n r
def lsC (m ls : Nat) : List HE := [.cells (iV' 0 13 [.hnd 1, .slice 2 (.var 13) (.var 14), .slice 3 (.var 13) (.var 15), .slice 4 (.var 13) (.var 16), .slice 5 (.var 13) (.var 17)]) 88, .abs m, .row .u64 42 19, .row .i64 3 20, .row .i64 3 21, .row .i64 3 ls]
structure LsE where
 s : Int
 H : Int
 n : Int
 ck : Int
 ch : Int
 ci : Int
 cl : Int
 M : MemSt
 ks : List Int
 hs : List Int
 is : List Int
 ls : List Int
def LsE.env (E : LsE) : List (EV U) := [.i (9 + 2 * E.s + E.H), .i (9 + 2 * E.s), .i E.H, .i 0, .i 1, .i E.s, .i (1 + E.s), .i (1 + 2 * E.s), .i 99, .i (2 + 2 * E.s), .i (3 + 2 * E.s), .i 3, .i (6 + 2 * E.s), .i E.n, .i E.ck, .i E.ch, .i E.ci, .i E.cl, .u (.mem E.M), .l E.ks, .l E.hs, .l E.is, .l E.ls]
def LsE.X (E : LsE) : KL := KL.mk' E.n E.H E.ks E.hs E.is
structure LsE.fits (E : LsE) : Prop where
 X : E.X.ok
 s : E.s = if E.n < 1 then 1 else E.n
 k : E.n ≤ E.ks.length
 h : E.n ≤ E.hs.length
 i : E.n ≤ E.is.length
 l : E.n ≤ E.ls.length
 M : E.M.fine
 kw : ∀ i, 0 ≤ i → i < E.n → isW (nthL E.ks i)
structure LsE.good (E : LsE) (nx : Int → Int → Int) : Prop where
 f : E.fits
 I : E.X.Inv nx (nthL E.ls)
 R : E.X.Rep nx (nthL E.ls) E.M
def rowL (n : Int) (is : List Int) (l i : Int) : List Int := (upN (n - i).toNat i).filter fun x => decide (l < nthL is x)
def rowPre (ins : List (EV U)) : Prop := ∃ E : LsE, ∃ l, ins = E.env ++ [.i l] ∧ E.fits ∧ 0 ≤ l ∧ l < E.H
def cLRow : Ctr U :=
 { fn := 108, nin := 24, args := [.ptr 0 0, .int .i64 (.var 23)], heap := lsC 18 22, pre := rowPre, nout := 3, out := fun _ => []
   many := some fun c ins => [.l (rowL (gI ins 13) (gL ins 21) (gI ins 23) 0 ++ c), .i (rowL (gI ins 13) (gL ins 21) (gI ins 23) 0).length, .i (((rowL (gI ins 13) (gL ins 21) (gI ins 23) 0).length + c.length : Nat) : Int)]
   ret := .slice 6 (.var 25) (.var 26), post := lsC 18 22 ++ [.row .i64 3 24] }
def lrInv (env : List (EV U)) : Prop := ∃ E : LsE, ∃ l i m : Int, ∃ xs : List Int, ∃ cap : Int, env = E.env ++ [.i l, .i i, .i m, .l xs, .i cap] ∧ E.fits ∧ 0 ≤ l ∧ l < E.H ∧ 0 ≤ i ∧ i ≤ E.n ∧ 0 ≤ m ∧ m ≤ i ∧ cap = xs.length ∧ m ≤ cap ∧ xs.take m.toNat ++ rowL E.n E.is l i = rowL E.n E.is l 0
def lLRow : LoopS U :=
 { fn := 108, rid := 3, nv := 4, tm := [(6, .int .i64 (.var 24)), (5, .slice 6 (.var 25) (.var 27))], hp := [(6, .row .i64 3 26)], reb := [(6, 0)], inv := lrInv, mu := fun env => (gI env 13 - gI env 24).toNat }
def linksPre (ins : List (EV U)) : Prop := ∃ E : LsE, ∃ l, ins = E.env ++ [.i l] ∧ E.fits ∧ 0 ≤ l ∧ l < E.H ∧ E.X.Lay (nthL E.ls) l E.M
def linksRel (ins outs : List (EV U)) : Prop := ∃ E : LsE, ∃ l, ∃ M' : MemSt, ins = E.env ++ [.i l] ∧ outs = [.u (.mem M')] ∧ E.X.Lay (nthL E.ls) (l + 1) M' ∧ M'.fine
def cLLinks : Ctr U :=
 { fn := 89, nin := 24, args := [.ptr 0 0, .int .i64 (.var 23)], heap := lsC 18 22, pre := linksPre, nout := 1, out := fun _ => []
   rel := some linksRel, ret := .tuple [], post := lsC 24 22 }
def lkEnv (E : LsE) (l : Int) (R c : List Int) (at0 : Int) : List (EV U) := E.env ++ [.i l, .l (R ++ c), .i R.length, .i ((R.length + c.length : Nat) : Int), .i at0]
def lkaInv (env : List (EV U)) : Prop := ∃ E : LsE, ∃ l : Int, ∃ R c : List Int, ∃ at0 : Int, ∃ M : MemSt, ∃ k at_ p : Int, env = lkEnv E l R c at0 ++ [.u (.mem M), .i k, .i at_] ∧ E.fits ∧ 0 ≤ l ∧ l < E.H ∧ 0 ≤ k ∧ k ≤ R.length ∧ R.length ≤ 9 ∧ at_ = cellN E.s E.H p l ∧ E.X.LA (nthL E.ls) l p M ∧ M.fine ∧ R.drop k.toNat = E.X.behind p l
def lkbInv (env : List (EV U)) : Prop := ∃ E : LsE, ∃ l : Int, ∃ R c : List Int, ∃ at0 : Int, ∃ x1 x2 x3 : EV U, ∃ M : MemSt, ∃ i : Int, env = lkEnv E l R c at0 ++ [x1, x2, x3, .u (.mem M), .i i] ∧ E.fits ∧ 0 ≤ l ∧ l < E.H ∧ 0 ≤ i ∧ i ≤ E.n ∧ E.X.LB (nthL E.ls) l i M ∧ M.fine
def lLkA : LoopS U :=
 { fn := 89, rid := 3, nv := 3, tm := [(6, .int .i64 (.var 29)), (5, .int .i64 (.var 30))], hp := [(1, .abs 28)], reb := [], inv := lkaInv, mu := fun env => (gI env 25 - gI env 29).toNat }
def lLkB : LoopS U :=
 { fn := 89, rid := 9, nv := 2, tm := [(7, .int .i64 (.var 32))], hp := [(1, .abs 31)], reb := [], inv := lkbInv, mu := fun env => (gI env 13 - gI env 32).toNat }
def marksI (E : LsE) (k : Int) : Int := k.tmod E.n
def marksAt (E : LsE) (k : Int) : Int := cellN E.s E.H (marksI E k) (nthL E.ls (marksI E k) - 1)
def marksM (E : LsE) (k : Int) : MemSt := if E.n < 1 ∨ nthL E.ls (marksI E k) ≤ 0 then E.M else (E.M.load (marksAt E k)).store (marksAt E k) (bits .or .u64 (E.M.load (marksAt E k)).n 9223372036854775808)
def marksL (E : LsE) (k : Int) : List Int := if E.n < 1 ∨ nthL E.ls (marksI E k) ≤ 0 then E.ls else E.ls.set (marksI E k).toNat (nthL E.ls (marksI E k) - 1)
def marksPre (ins : List (EV U)) : Prop := ∃ E : LsE, ∃ k nx, ins = E.env ++ [.i k] ∧ E.good nx ∧ 0 ≤ k ∧ k ≤ 100
def marksRel (ins outs : List (EV U)) : Prop := ∃ E : LsE, ∃ k, ins = E.env ++ [.i k] ∧ outs = [.u (.mem (marksM E k)), .l (marksL E k)]
def cLMarks : Ctr U :=
 { fn := 48, nin := 24, args := [.ptr 0 0, .int .i64 (.var 23)], heap := lsC 18 22, pre := marksPre, nout := 2, out := fun _ => []
   rel := some marksRel, ret := .tuple [], post := lsC 24 25 }
def stepPre (ins : List (EV U)) : Prop := ∃ E : LsE, ∃ F : FindSt, ∃ key nx s, ins = E.env ++ [.u (.find F)] ∧ E.good nx ∧ E.X.At key nx (nthL E.ls) s ∧ s ≠ .over ∧ E.X.FRep key F s
def stepRel (ins outs : List (EV U)) : Prop := ∃ E : LsE, ∃ F : FindSt, ins = E.env ++ [.u (.find F)] ∧ outs = [.u (.mem (F.step E.M).2), .u (.find (F.step E.M).1), .b true]
def cLStep : Ctr U :=
 { fn := 49, nin := 24, args := [.ptr 0 0, .hnd 6], heap := lsC 18 22 ++ [.abs 23], pre := stepPre, nout := 3, out := fun _ => []
   rel := some stepRel, ret := .bool (.var 26), post := lsC 24 22 ++ [.abs 25] }
def endPre (ins : List (EV U)) : Prop := ∃ E : LsE, ∃ F : FindSt, ∃ key : Int, ins = E.env ++ [.u (.find F), .i key] ∧ E.fits ∧ E.X.FRep key F .over
def endRel (ins outs : List (EV U)) : Prop := ∃ E : LsE, ∃ F : FindSt, ∃ key : Int, ins = E.env ++ [.u (.find F), .i key] ∧ outs = [.u (.find F), .b true]
def cLEnd : Ctr U :=
 { fn := 50, nin := 25, args := [.ptr 0 0, .hnd 6, .int .u64 (.var 24)], heap := lsC 18 22 ++ [.abs 23], pre := endPre, nout := 2, out := fun _ => []
   rel := some endRel, ret := .bool (.var 26), post := lsC 18 22 ++ [.abs 25] }
def cxUr (P : Program) (l : List (LoopS U)) : Cx U := { cx P [] with join := true, loops := l }
def ctsUk : List (Ctr U) := [cLRow, cNextP, cLoad, cStore]
def cxUk (P : Program) (l : List (LoopS U)) : Cx U := { cx P ctsUk with join := true, loops := l }
def ctsUm : List (Ctr U) := [cNextP, cLoad, cStore]
def cxUm (P : Program) : Cx U := { cx P ctsUm with join := true }
def ctsUs : List (Ctr U) := [cLive, cFStep, cLast, cFBy, cWho, cGetRef, cWords, cNextP, cSameInts]
def cxUs (P : Program) : Cx U := { cx P ctsUs with join := true }
def ctsUe : List (Ctr U) := [cFPreds, cFSuccs, cFKnown, cFErr, cGetRef]
def cxUe (P : Program) (l : List (LoopS U)) : Cx U := { cx P ctsUe with join := true, loops := l }
def leInv (env : List (EV U)) : Prop := ∃ E : LsE, ∃ F : FindSt, ∃ key : Int, ∃ x1 x2 x3 : EV U, ∃ c1 c2 c3 : List Int, ∃ y1 y2 y3 : EV U, ∃ j : Int,
 env = E.env ++ [.u (.find F), .i key, x1, .l (F.P ++ c1), .i F.P.length, y1, x2, .l (F.S ++ c2), .i F.S.length, y2, x3, .l (F.K ++ c3), .i F.K.length, y3, .u (.find F), .i 0, .i j] ∧ E.fits ∧ E.X.FRep key F .over ∧ 0 ≤ j ∧ j ≤ E.H
def lLEnd : LoopS U :=
 { fn := 50, rid := 5, nv := 1, tm := [(10, .int .i64 (.var 39))], hp := [], reb := [], inv := leInv, mu := fun env => (gI env 2 - gI env 39).toNat }
end Go.Proofs.Ytbmbiiiacajolaa
