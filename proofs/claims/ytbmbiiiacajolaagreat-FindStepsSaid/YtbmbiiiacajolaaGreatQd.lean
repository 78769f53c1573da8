/- The chapter's law beside the document: contracts (printed by gen_qd.py). -/
import Derived.Test.YtbmbiiiacajolaaGreatQaY
import Derived.Test.YtbmbiiiacajolaaGreatLt
namespace Go.Proofs.YtbmbiiiacajolaaGreat
set_option linter.unusedVariables false
set_option linter.unusedSimpArgs false
set_option linter.unusedSectionVars false
open Go Go.RowKit

def actTs : List (Option IntKind) := [some .i64, some .i64, some .i64, some .u64]
def fsPre (ins : List (EV U)) : Prop := ∃ a0 a1 a2 a3 a4 a5 a6 a7 a8 a9 a10 a11 a12 s : Int, ∃ gi, ∃ ki : Nat, ∃ ci gl, ∃ kl : Nat, ∃ cl, ins = [.i a0, .i a1, .i a2, .i a3, .i a4, .i a5, .i a6, .i a7, .i a8, .i a9, .i a10, .i a11, .i a12, .i s, .f gi ki, .i ki, .i ci, .f gl kl, .i kl, .i cl] ∧ (∀ j, j < ki → isW (gi j 0)) ∧ (∀ j, j < kl → isW (gl j 3))
def cFSteps : Ctr U :=
  { fn := 3, nin := 20, args := [twV 0, .int .i64 (.var 13), .slice 0 (.var 15) (.var 16), .slice 1 (.var 18) (.var 19)], heap := [.ro [some .u64] 14, .ro actTs 17]
    pre := fsPre, nout := 1, out := fun _ => [.b true], ret := .bool (.var 20), post := [.ro [some .u64] 14, .ro actTs 17] }
def ctsQd : List (Ctr U) := [cPick, cDF15, cNew, cQNew, cTFill, cQTFill, cStore, cQStore, cFNew, cQFNew, cFStep, cQFStep, cAlike, cLast, cQLast, cCount, cQCount, cWords, cQWords, cSameWords, boolC 6]
def cxQd (P : Program) (l : List (LoopS U)) : Cx U := { cx P ctsQd with join := true, loops := l }
/-! loops -/
def fhA (o : Option FindSt) : U := match o with | none => .findNil | some F => .find F
def fhB (o : Option FindSt) : U := match o with | none => .rfindNil | some F => .rfind F
def fhOk (o : Option FindSt) : Prop := ∀ F, o = some F → F.fit
def fs1Inv (env : List (EV U)) : Prop := ∃ a0 a1 a2 a3 a4 a5 a6 a7 a8 a9 a10 a11 a12 s : Int, ∃ gi, ∃ ki : Nat, ∃ ci gl, ∃ kl : Nat, ∃ cl, ∃ x20 x21 x22 x23 x24 x25 x26 : EV U, ∃ M : MemSt, ∃ j : Int, env = [.i a0, .i a1, .i a2, .i a3, .i a4, .i a5, .i a6, .i a7, .i a8, .i a9, .i a10, .i a11, .i a12, .i s, .f gi ki, .i ki, .i ci, .f gl kl, .i kl, .i cl, x20, x21, x22, x23, x24, x25, x26, .u (.mem M), .u (.rmem M), .i j] ∧
  0 ≤ j ∧ j ≤ ki ∧ ki ≤ 130 ∧ kl ≤ 200 ∧ 1 ≤ M.W.length ∧ M.fine ∧ okT a0 a1 a2 a5 = true ∧ (∀ j, j < ki → isW (gi j 0)) ∧ (∀ j, j < kl → isW (gl j 3))
def fs2Inv (env : List (EV U)) : Prop := ∃ a0 a1 a2 a3 a4 a5 a6 a7 a8 a9 a10 a11 a12 s : Int, ∃ gi, ∃ ki : Nat, ∃ ci gl, ∃ kl : Nat, ∃ cl, ∃ x20 x21 x22 x23 x24 x25 x26 x27 x28 x29 : EV U, ∃ M : MemSt, ∃ o0 o1 o2 : Option FindSt, ∃ j : Int, env = [.i a0, .i a1, .i a2, .i a3, .i a4, .i a5, .i a6, .i a7, .i a8, .i a9, .i a10, .i a11, .i a12, .i s, .f gi ki, .i ki, .i ci, .f gl kl, .i kl, .i cl, x20, x21, x22, x23, x24, x25, x26, x27, x28, x29, .u (.mem M), .u (.rmem M), .u (fhA o0), .u (fhB o0), .u (fhA o1), .u (fhB o1), .u (fhA o2), .u (fhB o2), .i j] ∧
  0 ≤ j ∧ j ≤ kl ∧ kl ≤ 200 ∧ 1 ≤ M.W.length ∧ M.fine ∧ okT a0 a1 a2 a5 = true ∧ (∀ j, j < kl → isW (gl j 3)) ∧ fhOk o0 ∧ fhOk o1 ∧ fhOk o2
def lFS1 : LoopS U :=
  { fn := 7, rid := 8, nv := 3, tm := [(12, .int .i64 (.var 29))], hp := [(4, .abs 27), (5, .abs 28)], reb := [], inv := fs1Inv, mu := fun env => (gI env 15 - gI env 29).toNat }
def lFS2 : LoopS U :=
  { fn := 3, rid := 8, nv := 9, tm := [(12, .int .i64 (.var 38))]
    hp := [(4, .abs 30), (5, .abs 31), (6, .cells [.hnd 7, .hnd 8, .hnd 9, .hnd 10, .hnd 11, .hnd 12] 51), (7, .abs 32), (8, .abs 33), (9, .abs 34), (10, .abs 35), (11, .abs 36), (12, .abs 37)]
    reb := [(7, 15), (8, 17), (9, 15), (10, 17), (11, 15), (12, 17)], inv := fs2Inv, mu := fun env => (gI env 18 - gI env 38).toNat }
end Go.Proofs.YtbmbiiiacajolaaGreat
