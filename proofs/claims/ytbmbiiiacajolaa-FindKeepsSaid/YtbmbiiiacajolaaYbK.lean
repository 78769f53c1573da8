/- Texts of this proof. -/
import Derived.Test.YtbmbiiiacajolaaQaK
namespace Go.Proofs.Ytbmbiiiacajolaa
set_option linter.unusedVariables false
set_option linter.unusedSimpArgs false
set_option linter.unusedSectionVars false
open Go
def cIdxP : Ctr U :=
 { fn := 70, nin := 14, args := [twV 0, .int .u64 (.var 13)], heap := []
   pre := fun ins => ∃ a0 a1 a2 a3 a4 a5 a6 a7 a8 a9 a10 a11 a12 w : Int, ins = [.i a0, .i a1, .i a2, .i a3, .i a4, .i a5, .i a6, .i a7, .i a8, .i a9, .i a10, .i a11, .i a12, .i w] ∧ isW w, nout := 1
   out := fun ins => [.i (idxW (gI ins 5) (gI ins 13))], ret := .int .i64 (.var 14), post := [] }
def levelK (M : MemSt) (n h a s l : Int) : Nat → Int → List Int
 | 0, _ => []
 | k + 1, i => if i < 0 then [] else i :: levelK M n h a s l k (idxW s (M.at0 (nextT n h a s i l)))
def levelT (M : MemSt) (n h a s l : Int) : List Int := if nextT n h a s (-1) l < 0 then [] else levelK M n h a s l s.toNat (idxW s (M.at0 (nextT n h a s (-1) l)))
def goesT (M : MemSt) (n h a s i : Int) : Bool := decide (M.at0 (nextT n h a s i 0) / 9223372036854775808 = 0)
def liveT (M : MemSt) (n h a s : Int) : List Int := (levelT M n h a s 0).filter (goesT M n h a s)
def livePre (ins : List (EV U)) : Prop := ∃ M : MemSt, ∃ a0 a1 a2 a3 a4 a5 a6 a7 a8 a9 a10 a11 a12 : Int, ins = [.u (.mem M), .i a0, .i a1, .i a2, .i a3, .i a4, .i a5, .i a6, .i a7, .i a8, .i a9, .i a10, .i a11, .i a12] ∧ M.fine ∧ okT a0 a1 a2 a5 = true
def liveMany (c : List Int) (ins : List (EV U)) : List (EV U) := match ins with
 | [.u (.mem M), .i a0, .i a1, .i a2, _, _, .i a5, _, _, _, _, _, _, _] => rowOut (.u (.mem M)) (liveT M a0 a1 a2 a5) c | _ => []
def cLive : Ctr U :=
 { fn := 29, nin := 14, args := [twV 1, .hnd 0], heap := [.abs 0]
   pre := livePre, nout := 4, out := fun _ => [], many := some liveMany, ret := .slice 1 (.var 16) (.var 17), post := [.abs 14, .row .i64 3 15] }
def cMemAt : Ctr U :=
 { fn := 74, nin := 4, args := [.slice 0 (.var 1) (.var 2), .int .i64 (.var 3)], heap := [.row .u64 42 0]
   pre := fun ins => ∃ W c k, ins = [.l W, .i W.length, .i c, .i k] ∧ W.length ≤ 4096, nout := 1
   out := fun ins => match ins with | [.l W, _, _, .i k] => [.i (if 0 ≤ k ∧ k < W.length then W[k.toNat]?.getD 0 else 0)] | _ => []
   ret := .int .u64 (.var 4), post := [.row .u64 42 0] }
def ctsYb : List (Ctr U) := [cWords, cIdxP, cNextP, cSnd15, cMemAt]
def cxYb (P : Program) (l : List (LoopS U)) : Cx U := { cx P ctsYb with join := true, loops := l }
def livInv (env : List (EV U)) : Prop := ∃ M : MemSt, ∃ a0 a1 a2 a3 a4 a5 a6 a7 a8 a9 a10 a11 a12 : Int, ∃ x14 x18 x19 x20 x21 : EV U, ∃ i k m : Int, ∃ xs : List Int, ∃ c : Int, env = [.u (.mem M), .i a0, .i a1, .i a2, .i a3, .i a4, .i a5, .i a6, .i a7, .i a8, .i a9, .i a10, .i a11, .i a12, x14, .u (.mem M), .l M.W, .i M.W.length, x18, x19, x20, x21, .i i, .i k, .i m, .l xs, .i c] ∧
 M.fine ∧ okT a0 a1 a2 a5 = true ∧ 0 ≤ k ∧ k ≤ a5 ∧ 0 ≤ m ∧ m ≤ k ∧ c = xs.length ∧ m ≤ c ∧ xs.take m.toNat ++ (levelK M a0 a1 a2 a5 0 (a5.toNat - k.toNat) i).filter (goesT M a0 a1 a2 a5) = liveT M a0 a1 a2 a5 ∧ i ≤ 65534
def lLive : LoopS U :=
 { fn := 100, rid := 2, nv := 5, tm := [(5, .int .i64 (.var 22)), (6, .int .i64 (.var 23))], hp := [(2, .cells [.slice 10 (.var 24) (.var 26)] 60), (10, .row .i64 3 25)], reb := [(10, 0)], inv := livInv, mu := fun env => (gI env 6 - gI env 23).toNat }
end Go.Proofs.Ytbmbiiiacajolaa
