/- Texts of this proof. -/
import Derived.Test.YtdldcofddfkkbaaGreatXbO
import Derived.Test.YtdldcofddfkkbaaGreatB6O
import Derived.Test.YtdldcofddfkkbaaGreatLtO
import Derived.Test.YtdldcofddfkkbaaGreatB1O
import Derived.Test.YtdldcofddfkkbaaGreatB2O
namespace Go.Proofs.YtdldcofddfkkbaaGreat
set_option linter.unusedVariables false
set_option linter.unusedSimpArgs false
set_option linter.unusedSectionVars false
open Go Go.RowKit
def va (l : List Nat) (r : List Bnd) : List Bnd := (l.map fun n => .ex (.var n)) ++ r
def vr : Nat → Nat → List Bnd → List Bnd
 | _, 0, r => r
 | a, n + 1, r => .ex (.var a) :: vr (a + 1) n r
theorem va_map : (∀ (e : List (EV U)) (l : List Nat) (r : List Bnd), (va l r).map (Bnd.den e) = (l.map fun n => EV.i (gI e n)) ++ r.map (Bnd.den e)) ∧ (∀ (a : Nat) (r : List Bnd), vr a 0 r = r) ∧ ∀ (a n : Nat) (r : List Bnd), vr a (n + 1) r = .ex (.var a) :: vr (a + 1) n r :=
 ⟨fun e l r => by rw [va, List.map_append, List.map_map]; rfl, fun _ _ => rfl, fun _ _ _ => rfl⟩
def nextT (n h a s i l : Int) : Int := if l < 0 ∨ 4 ≤ l then -1 else atT n h a s i (4 + l)
namespace FindSt
def a (F : FindSt) (i : Nat) : Int := F.t[i]?.getD 0
def nx (F : FindSt) (i : Int) : Int := nextT (F.a 0) (F.a 1) (F.a 2) (F.a 5) i F.l
def ix (F : FindSt) : Int := idxW (F.a 5) F.cur
def anew (F : FindSt) (r : Int) : FindSt := ⟨F.t, F.key, 1, F.a 2 - 1, -1, 0, 0, 0, F.P, F.S, F.K, r⟩
def done (F : FindSt) (r : Int) : FindSt :=
 if F.l = 0 then ⟨F.t, F.key, 9, 0, 0, 0, 0, 0, F.P.set F.l.toNat F.pred, F.S.set F.l.toNat F.cur, F.K.set F.l.toNat F.ref, r⟩
 else ⟨F.t, F.key, 1, F.l - 1, F.pred, F.ref, 0, 0, F.P.set F.l.toNat F.pred, F.S.set F.l.toNat F.cur, F.K.set F.l.toNat F.ref, r⟩
def looks (F : FindSt) (r : Int) : FindSt := if F.ix < 0 then F.done r else ⟨F.t, F.key, 2, F.l, F.pred, F.ref, F.cur, 0, F.P, F.S, F.K, r⟩
def at_ (F : FindSt) : Int := if F.line = 1 ∨ F.line = 3 then F.nx F.pred else if F.line = 2 then F.nx F.ix else atT (F.a 0) (F.a 1) (F.a 2) (F.a 5) F.ix 0
def step (F : FindSt) (M : MemSt) : FindSt × MemSt :=
 if F.line = 1 then (if 9223372036854775808 ≤ (M.load F.at_).n then F.anew F.ref else FindSt.looks ⟨F.t, F.key, 1, F.l, F.pred, F.ref, (M.load F.at_).n, 0, F.P, F.S, F.K, 0⟩ F.ref, M.load F.at_)
 else if F.line = 2 then (⟨F.t, F.key, if 9223372036854775808 ≤ (M.load F.at_).n then 3 else 4, F.l, F.pred, F.ref, F.cur, (M.load F.at_).n, F.P, F.S, F.K, F.cur⟩, M.load F.at_)
 else if F.line = 3 then (if (M.cas F.at_ F.cur (F.w % 9223372036854775808)).h = true then FindSt.looks ⟨F.t, F.key, 1, F.l, F.pred, F.ref, F.w % 9223372036854775808, 0, F.P, F.S, F.K, 0⟩ F.ref else F.anew F.ref, M.cas F.at_ F.cur (F.w % 9223372036854775808))
 else if F.line = 4 then (if (M.load F.at_).n < F.key then FindSt.looks ⟨F.t, F.key, 1, F.l, F.ix, F.cur, F.w, 0, F.P, F.S, F.K, 0⟩ F.cur else F.done F.cur, M.load F.at_)
 else (F, M)
def fit (F : FindSt) : Prop := F.P.length ≤ 4 ∧ F.S.length ≤ 4 ∧ F.K.length ≤ 4
def new (t : List Int) (key : Int) (h : Int) : FindSt := ⟨t, key, 1, h - 1, -1, 0, 0, 0, List.replicate h.toNat 0, List.replicate h.toNat 0, List.replicate h.toNat 0, 0⟩
end FindSt
def cNextP : Ctr U := { fn := 115, nin := 15, args := [twV 0, .int .i64 (.var 13), .int .i64 (.var 14)], heap := [], pre := atPre, nout := 1
                        out := fun ins => [.i (nextT (gI ins 0) (gI ins 1) (gI ins 2) (gI ins 5) (gI ins 13) (gI ins 14))], ret := .int .i64 (.var 15), post := [] }
def cNextQ : Ctr U := { cNextP with fn := 282 }
def cIdxQ : Ctr U :=
 { fn := 108, nin := 14, args := [twV 0, .int .u64 (.var 13)], heap := []
   pre := fun ins => ∃ a0 a1 a2 a3 a4 a5 a6 a7 a8 a9 a10 a11 a12 w : Int, ins = [.i a0, .i a1, .i a2, .i a3, .i a4, .i a5, .i a6, .i a7, .i a8, .i a9, .i a10, .i a11, .i a12, .i w] ∧ isW w, nout := 1
   out := fun ins => [.i (idxW (gI ins 5) (gI ins 13))], ret := .int .i64 (.var 14), post := [] }
def cFIdx1 : Ctr U :=
 { fn := 213, nin := 30, args := [.ptr 0 0, .int .u64 (.var 25)], heap := [.cells (iV 0 13 [.int .u64 (.var 13), .int .i64 (.var 14), .int .i64 (.var 15), .int .i64 (.var 16), .int .u64 (.var 17), .int .u64 (.var 18), .int .u64 (.var 19), .slice 1 (.var 20) (.var 21), .int .u64 (.var 22), .bool (.var 23), .int .i64 (.var 24)]) 286, .cells [.int .i64 (.var 26), .int .i64 (.var 27), .int .u64 (.var 28), .int .u64 (.var 29)] 283]
   pre := fun ins => isW (gI ins 25), nout := 1, out := fun ins => [.i (idxW (gI ins 5) (gI ins 25))], ret := .int .i64 (.var 30), post := [.cells (iV 0 13 [.int .u64 (.var 13), .int .i64 (.var 14), .int .i64 (.var 15), .int .i64 (.var 16), .int .u64 (.var 17), .int .u64 (.var 18), .int .u64 (.var 19), .slice 1 (.var 20) (.var 21), .int .u64 (.var 22), .bool (.var 23), .int .i64 (.var 24)]) 286, .cells [.int .i64 (.var 26), .int .i64 (.var 27), .int .u64 (.var 28), .int .u64 (.var 29)] 283] }
def cFIdx2 : Ctr U :=
 { fn := 213, nin := 34, args := [.ptr 0 0, .int .u64 (.var 25)], heap := [.cells (iV 0 13 [.int .u64 (.var 13), .int .i64 (.var 14), .int .i64 (.var 15), .int .i64 (.var 16), .int .u64 (.var 17), .int .u64 (.var 18), .int .u64 (.var 19), .slice 1 (.var 20) (.var 21), .int .u64 (.var 22), .bool (.var 23), .int .i64 (.var 24)]) 286, .cells [.int .i64 (.var 26), .int .i64 (.var 27), .int .u64 (.var 28), .int .u64 (.var 29), .int .i64 (.var 30), .int .i64 (.var 31), .int .u64 (.var 32), .int .u64 (.var 33)] 283]
   pre := fun ins => isW (gI ins 25), nout := 1, out := fun ins => [.i (idxW (gI ins 5) (gI ins 25))], ret := .int .i64 (.var 34), post := [.cells (iV 0 13 [.int .u64 (.var 13), .int .i64 (.var 14), .int .i64 (.var 15), .int .i64 (.var 16), .int .u64 (.var 17), .int .u64 (.var 18), .int .u64 (.var 19), .slice 1 (.var 20) (.var 21), .int .u64 (.var 22), .bool (.var 23), .int .i64 (.var 24)]) 286, .cells [.int .i64 (.var 26), .int .i64 (.var 27), .int .u64 (.var 28), .int .u64 (.var 29), .int .i64 (.var 30), .int .i64 (.var 31), .int .u64 (.var 32), .int .u64 (.var 33)] 283] }
def cFIdx3 : Ctr U :=
 { fn := 213, nin := 38, args := [.ptr 0 0, .int .u64 (.var 25)], heap := [.cells (iV 0 13 [.int .u64 (.var 13), .int .i64 (.var 14), .int .i64 (.var 15), .int .i64 (.var 16), .int .u64 (.var 17), .int .u64 (.var 18), .int .u64 (.var 19), .slice 1 (.var 20) (.var 21), .int .u64 (.var 22), .bool (.var 23), .int .i64 (.var 24)]) 286, .cells [.int .i64 (.var 26), .int .i64 (.var 27), .int .u64 (.var 28), .int .u64 (.var 29), .int .i64 (.var 30), .int .i64 (.var 31), .int .u64 (.var 32), .int .u64 (.var 33), .int .i64 (.var 34), .int .i64 (.var 35), .int .u64 (.var 36), .int .u64 (.var 37)] 283]
   pre := fun ins => isW (gI ins 25), nout := 1, out := fun ins => [.i (idxW (gI ins 5) (gI ins 25))], ret := .int .i64 (.var 38), post := [.cells (iV 0 13 [.int .u64 (.var 13), .int .i64 (.var 14), .int .i64 (.var 15), .int .i64 (.var 16), .int .u64 (.var 17), .int .u64 (.var 18), .int .u64 (.var 19), .slice 1 (.var 20) (.var 21), .int .u64 (.var 22), .bool (.var 23), .int .i64 (.var 24)]) 286, .cells [.int .i64 (.var 26), .int .i64 (.var 27), .int .u64 (.var 28), .int .u64 (.var 29), .int .i64 (.var 30), .int .i64 (.var 31), .int .u64 (.var 32), .int .u64 (.var 33), .int .i64 (.var 34), .int .i64 (.var 35), .int .u64 (.var 36), .int .u64 (.var 37)] 283] }
def cFIdx4 : Ctr U :=
 { fn := 213, nin := 42, args := [.ptr 0 0, .int .u64 (.var 25)], heap := [.cells (iV 0 13 [.int .u64 (.var 13), .int .i64 (.var 14), .int .i64 (.var 15), .int .i64 (.var 16), .int .u64 (.var 17), .int .u64 (.var 18), .int .u64 (.var 19), .slice 1 (.var 20) (.var 21), .int .u64 (.var 22), .bool (.var 23), .int .i64 (.var 24)]) 286, .cells [.int .i64 (.var 26), .int .i64 (.var 27), .int .u64 (.var 28), .int .u64 (.var 29), .int .i64 (.var 30), .int .i64 (.var 31), .int .u64 (.var 32), .int .u64 (.var 33), .int .i64 (.var 34), .int .i64 (.var 35), .int .u64 (.var 36), .int .u64 (.var 37), .int .i64 (.var 38), .int .i64 (.var 39), .int .u64 (.var 40), .int .u64 (.var 41)] 283]
   pre := fun ins => isW (gI ins 25), nout := 1, out := fun ins => [.i (idxW (gI ins 5) (gI ins 25))], ret := .int .i64 (.var 42), post := [.cells (iV 0 13 [.int .u64 (.var 13), .int .i64 (.var 14), .int .i64 (.var 15), .int .i64 (.var 16), .int .u64 (.var 17), .int .u64 (.var 18), .int .u64 (.var 19), .slice 1 (.var 20) (.var 21), .int .u64 (.var 22), .bool (.var 23), .int .i64 (.var 24)]) 286, .cells [.int .i64 (.var 26), .int .i64 (.var 27), .int .u64 (.var 28), .int .u64 (.var 29), .int .i64 (.var 30), .int .i64 (.var 31), .int .u64 (.var 32), .int .u64 (.var 33), .int .i64 (.var 34), .int .i64 (.var 35), .int .u64 (.var 36), .int .u64 (.var 37), .int .i64 (.var 38), .int .i64 (.var 39), .int .u64 (.var 40), .int .u64 (.var 41)] 283] }
def twH (h : Int) : SV := .agg [.int .i64 (.var 0), .int .i64 (.var 1), .int .i64 (.lit h), .int .i64 (.var 3), .int .i64 (.var 4), .int .i64 (.var 5), .int .i64 (.var 6), .int .i64 (.var 7), .int .i64 (.var 8), .int .i64 (.var 9), .int .i64 (.var 10), .int .i64 (.var 11), .int .i64 (.var 12)]
def newPre (h : Int) (ins : List (EV U)) : Prop := ∃ a0 a1 a2 a3 a4 a5 a6 a7 a8 a9 a10 a11 a12 k : Int, ins = [.i a0, .i a1, .i a2, .i a3, .i a4, .i a5, .i a6, .i a7, .i a8, .i a9, .i a10, .i a11, .i a12, .i k] ∧ a2 = h ∧ okT a0 a1 h a5 = true
def newPreA (ins : List (EV U)) : Prop := ∃ a0 a1 a2 a3 a4 a5 a6 a7 a8 a9 a10 a11 a12 k : Int, ins = [.i a0, .i a1, .i a2, .i a3, .i a4, .i a5, .i a6, .i a7, .i a8, .i a9, .i a10, .i a11, .i a12, .i k] ∧ okT a0 a1 a2 a5 = true
def newOut (f : FindSt → U) (ins : List (EV U)) : List (EV U) := match ins with | [.i a0, .i a1, .i a2, .i a3, .i a4, .i a5, .i a6, .i a7, .i a8, .i a9, .i a10, .i a11, .i a12, .i k] => [.u (f (.new [a0, a1, a2, a3, a4, a5, a6, a7, a8, a9, a10, a11, a12] k a2))] | _ => []
def cFNewH (h : Int) : Ctr U :=
 { fn := 117, nin := 14, args := [twH h, .int .u64 (.var 13)], heap := [], pre := newPre h, nout := 1, out := newOut .find, ret := .hnd 0, post := [.abs 14] }
def cFNew : Ctr U :=
 { fn := 117, nin := 14, args := [twV 0, .int .u64 (.var 13)], heap := [], pre := newPreA, nout := 1, out := newOut .find, ret := .hnd 0, post := [.abs 14] }
def cQFNew : Ctr U :=
 { fn := 109, nin := 14, args := [twV 0, .int .u64 (.var 13)], heap := [], pre := newPreA, nout := 1, out := newOut .rfind, ret := .hnd 0, post := [.abs 14] }
def cFStep : Ctr U :=
 { fn := 118, nin := 2, args := [.hnd 0, .hnd 1], heap := [.abs 0, .abs 1]
   pre := fun ins => ∃ F M, ins = [.u (.find F), .u (.mem M)] ∧ M.fine, nout := 3
   out := fun ins => match ins with | [.u (.find F), .u (.mem M)] => [.u (.find (F.step M).1), .u (.mem (F.step M).2), .b ((F.step M).1.line == 9)] | _ => []
   ret := .bool (.var 4), post := [.abs 2, .abs 3] }
def cFStepP (p : FindSt → Prop) : Ctr U := { cFStep with pre := fun ins => ∃ F M, ins = [.u (.find F), .u (.mem M)] ∧ M.fine ∧ p F }
def high (h : Int) (F : FindSt) : Prop := F.a 2 = h
def highX (F : FindSt) : Prop := ¬ F.a 2 = 1 ∧ ¬ F.a 2 = 2 ∧ ¬ F.a 2 = 3
def cQFStep : Ctr U :=
 { fn := 280, nin := 2, args := [.hnd 0, .hnd 1], heap := [.abs 0, .abs 1]
   pre := fun ins => ∃ F M, ins = [.u (.rfind F), .u (.rmem M)] ∧ M.fine, nout := 3
   out := fun ins => match ins with | [.u (.rfind F), .u (.rmem M)] => [.u (.rfind (F.step M).1), .u (.rmem (F.step M).2), .b ((F.step M).1.line == 9)] | _ => []
   ret := .bool (.var 4), post := [.abs 2, .abs 3] }
def FindSt.told (F : FindSt) (L : List Int) : List Int := if F.line = 9 then L else []
def rowOut (x : EV U) (xs c : List Int) : List (EV U) := [x, .l (xs ++ c), .i xs.length, .i ((xs.length + c.length : Nat) : Int)]
def rowF (g : FindSt → List Int) (c : List Int) (ins : List (EV U)) : List (EV U) := match ins with | [.u (.find F)] => rowOut (.u (.find F)) (F.told (g F)) c | _ => []
def rowQ (g : FindSt → List Int) (c : List Int) (ins : List (EV U)) : List (EV U) := match ins with | [.u (.rfind F)] => rowOut (.u (.rfind F)) (F.told (g F)) c | _ => []
def cFPreds : Ctr U :=
 { fn := 308, nin := 1, args := [.hnd 0], heap := [.abs 0], pre := fun ins => ∃ F, ins = [.u (.find F)], nout := 4, out := fun _ => []
   many := some (rowF FindSt.P), ret := .slice 1 (.var 3) (.var 4), post := [.abs 1, .row .i64 3 2] }
def cFSuccs : Ctr U := { cFPreds with fn := 273, many := some (rowF FindSt.S), post := [.abs 1, .row .u64 85 2] }
def cFKnown : Ctr U := { cFPreds with fn := 307, many := some (rowF FindSt.K), post := [.abs 1, .row .u64 85 2] }
def cQPreds : Ctr U := { cFPreds with fn := 284, pre := fun ins => ∃ F, ins = [.u (.rfind F)], many := some (rowQ FindSt.P) }
def cQSuccs : Ctr U := { cFPreds with fn := 225, pre := fun ins => ∃ F, ins = [.u (.rfind F)], many := some (rowQ FindSt.S), post := [.abs 1, .row .u64 85 2] }
def cQKnown : Ctr U := { cFPreds with fn := 283, pre := fun ins => ∃ F, ins = [.u (.rfind F)], many := some (rowQ FindSt.K), post := [.abs 1, .row .u64 85 2] }
def cFBy : Ctr U :=
 { fn := 305, nin := 1, args := [.hnd 0], heap := [.abs 0], pre := fun ins => ∃ F, ins = [.u (.find F)], nout := 2
   out := fun ins => match ins with | [.u (.find F)] => [.u (.find F), .i F.r] | _ => [], ret := .int .u64 (.var 2), post := [.abs 1] }
def cQBy : Ctr U :=
 { fn := 281, nin := 1, args := [.hnd 0], heap := [.abs 0], pre := fun ins => ∃ F, ins = [.u (.rfind F)], nout := 2
   out := fun ins => match ins with | [.u (.rfind F)] => [.u (.rfind F), .i F.r] | _ => [], ret := .int .u64 (.var 2), post := [.abs 1] }
def errF (F : FindSt) : Int := if F.line = 9 then 0 else 14
def cFErr : Ctr U :=
 { fn := 320, nin := 1, args := [.hnd 0], heap := [.abs 0], pre := fun ins => ∃ F, ins = [.u (.find F)], nout := 2
   out := fun ins => match ins with | [.u (.find F)] => [.u (.find F), .i (errF F)] | _ => [], ret := .int .i64 (.var 2), post := [.abs 1] }
def cpyMany (c : List Int) (ins : List (EV U)) : List (EV U) := match ins with | [.l xs, .i a, _] => [.l (xs.take a.toNat ++ c), .i a, .i ((a.toNat + c.length : Nat) : Int)] | _ => []
def cCopyI : Ctr U :=
 { fn := 232, nin := 3, args := [.slice 0 (.var 1) (.var 2)], heap := [.row .i64 3 0], pre := fun ins => ∃ xs a c, ins = [.l xs, .i a, .i c] ∧ 0 ≤ a ∧ a ≤ xs.length ∧ a ≤ 1000
   nout := 3, out := fun _ => [], many := some cpyMany, ret := .slice 1 (.var 4) (.var 5), post := [.row .i64 3 0, .row .i64 3 3] }
def cCopyW : Ctr U :=
 { cCopyI with fn := 103, heap := [.row .u64 85 0], post := [.row .u64 85 0, .row .u64 85 3] }
def ctsQn : List (Ctr U) := [cNextP]
def ctsQq : List (Ctr U) := [cDSnd]
def ctsQs : List (Ctr U) := [cNextP, cAt, cLoad, cCAS, cFIdx1, cFIdx2, cFIdx3, cFIdx4]
def ctsQt : List (Ctr U) := [cNextQ, cRAt, cIdxQ, cQLoad, cQCAS]
def ctsQp : List (Ctr U) := [cCopyI, cCopyW]
def cxQp (P : Program) : Cx U := { cx P ctsQp with join := true }
def cxQ0 (P : Program) : Cx U := { cx P [cAt] with join := true }
def cxQ1 (P : Program) : Cx U := { cx P [cRAt] with join := true }
def cxQi (P : Program) : Cx U := { cx P [] with join := true }
def cxQn (P : Program) : Cx U := { cx P ctsQn with join := true }
def cxQq (P : Program) : Cx U := { cx P ctsQq with join := true }
def cxQs (P : Program) : Cx U := { cx P ctsQs with join := true }
def cxQt (P : Program) : Cx U := { cx P ctsQt with join := true }
def topW (i w : Int) : Int := i + 1 + (w / 65536 + 1) % 281474976710656 * 65536
namespace RetSt
def x (R : RetSt) (k : Nat) : Int := R.l[k]?.getD 0
def step (R : RetSt) (M : MemSt) : RetSt × MemSt :=
 if R.line = 0 then (⟨R.l, R.i, 1, IntKind.i64.wrap (R.x 9 + (M.load (R.x 6)).n % 4294967296 % 3), 1, 0, 0⟩, M.load (R.x 6))
 else if R.line = 1 then
  if R.pl = 1 then (⟨R.l, R.i, 1, R.st, 2, (M.load R.st).n, 0⟩, M.load R.st)
  else if R.pl = 2 then (⟨R.l, R.i, 1, R.st, 3, R.w, 0⟩, M.store (IntKind.i64.wrap (R.x 1 + R.i)) (idxW (R.x 2) R.w + 1))
  else (if (M.cas R.st R.w (topW R.i R.w)).h = true then ⟨R.l, R.i, 9, 0, 0, 0, 0⟩ else ⟨R.l, R.i, 1, R.st, 1, 0, 0⟩, M.cas R.st R.w (topW R.i R.w))
 else (R, M)
def new (l : List Int) (s i : Int) : RetSt := if i < 0 ∨ s ≤ i then ⟨l, i, 9, 0, 0, 0, 3⟩ else ⟨l, i, 0, 0, 0, 0, 0⟩
def told (R : RetSt) : Int := if R.line = 9 then R.err else 14
end RetSt
def cGetTop : Ctr U :=
 { fn := 81, nin := 1, args := [.int .u64 (.var 0)], heap := []
   pre := fun ins => ∃ w, ins = [.i w] ∧ isW w, nout := 2
   out := fun ins => match ins with | [.i w] => [.i (w % 65536 - 1), .i (w / 65536)] | _ => []
   ret := .tuple [.agg [.int .i64 (.var 1), .int .i64 (.var 2)], .int .i64 (.lit 0)], post := [] }
def cPuT : Ctr U :=
 { fn := 314, nin := 2, args := [.agg [.int .i64 (.var 0), .int .i64 (.var 1)]], heap := []
   pre := fun ins => ∃ i t, ins = [.i i, .i t] ∧ -1 ≤ i ∧ i ≤ 65534 ∧ 0 ≤ t ∧ t < 281474976710656, nout := 2
   out := fun ins => match ins with | [.i i, .i t] => [.i (i + 1 + t * 65536), .i 0] | _ => []
   ret := .tuple [.int .u64 (.var 2), .int .i64 (.var 3)], post := [] }
def stk3 : SV := .agg [.int .i64 (.var 0), .int .i64 (.var 1), .int .i64 (.var 2)]
def cRead : Ctr U :=
 { fn := 288, nin := 4, args := [stk3, .int .u64 (.var 3)], heap := []
   pre := fun ins => ∃ a b n w, ins = [.i a, .i b, .i n, .i w] ∧ isW w, nout := 1
   out := fun ins => match ins with | [.i a, .i b, .i n, .i w] => [.i (idxW n w)] | _ => []
   ret := .int .i64 (.var 4), post := [] }
def cQIdx : Ctr U :=
 { fn := 193, nin := 4, args := [stk3, .int .u64 (.var 3)], heap := []
   pre := fun ins => ∃ a b n w, ins = [.i a, .i b, .i n, .i w] ∧ isW w, nout := 1
   out := fun ins => match ins with | [.i a, .i b, .i n, .i w] => [.i (idxW n w)] | _ => []
   ret := .int .i64 (.var 4), post := [] }
def cQTop : Ctr U :=
 { fn := 256, nin := 2, args := [.int .i64 (.var 0), .int .u64 (.var 1)], heap := []
   pre := fun ins => ∃ i w, ins = [.i i, .i w] ∧ -1 ≤ i ∧ i ≤ 65534 ∧ isW w, nout := 1
   out := fun ins => match ins with | [.i i, .i w] => [.i (topW i w)] | _ => []
   ret := .int .u64 (.var 2), post := [] }
def cAdd : Ctr U :=
 { fn := 119, nin := 3, args := [.hnd 0, .int .i64 (.var 1), .int .u64 (.var 2)], heap := [.abs 0]
   pre := fun ins => ∃ M at_ x, ins = [.u (.mem M), .i at_, .i x], nout := 2
   out := fun ins => match ins with | [.u (.mem M), .i at_, .i x] => [.u (.mem (M.add at_ x)), .i (M.add at_ x).n] | _ => []
   ret := .int .u64 (.var 4), post := [.abs 3] }
def cQAdd : Ctr U :=
 { fn := 230, nin := 3, args := [.hnd 0, .int .i64 (.var 1), .int .u64 (.var 2)], heap := [.abs 0]
   pre := fun ins => ∃ M at_ x, ins = [.u (.rmem M), .i at_, .i x] ∧ M.W.length ≤ 4096, nout := 2
   out := fun ins => match ins with | [.u (.rmem M), .i at_, .i x] => [.u (.rmem (M.add at_ x)), .i (M.add at_ x).n] | _ => []
   ret := .int .u64 (.var 4), post := [.abs 3] }
def limW (j : Nat) : SV := .agg [.int .i64 (.var j), .int .i64 (.var (j + 1)), .int .i64 (.var (j + 2)), .int .i64 (.var (j + 3)), .int .i64 (.var (j + 4)), .int .i64 (.var (j + 5)), .int .i64 (.var (j + 6)), .int .i64 (.var (j + 7)), .int .i64 (.var (j + 8)), .int .i64 (.var (j + 9))]
def retPre (ins : List (EV U)) : Prop := ∃ t ls s g wo lm ea ep ec tp i : Int, ins = [.i t, .i ls, .i s, .i g, .i wo, .i lm, .i ea, .i ep, .i ec, .i tp, .i i] ∧ s ≤ 4096
def cRNew : Ctr U :=
 { fn := 22, nin := 11, args := [limW 0, .int .i64 (.var 10)], heap := [], pre := retPre, nout := 1
   out := fun ins => match ins with | [.i t, .i ls, .i s, .i g, .i wo, .i lm, .i ea, .i ep, .i ec, .i tp, .i i] => [.u (.ret (.new [t, ls, s, g, wo, lm, ea, ep, ec, tp] s i))] | _ => [], ret := .hnd 0, post := [.abs 11] }
def cQRNew : Ctr U :=
 { fn := 101, nin := 11, args := [limW 0, .int .i64 (.var 10)], heap := [], pre := retPre, nout := 1
   out := fun ins => match ins with | [.i t, .i ls, .i s, .i g, .i wo, .i lm, .i ea, .i ep, .i ec, .i tp, .i i] => [.u (.rret (.new [t, ls, s, g, wo, lm, ea, ep, ec, tp] s i))] | _ => [], ret := .hnd 0, post := [.abs 11] }
def cRStep : Ctr U :=
 { fn := 17, nin := 2, args := [.hnd 0, .hnd 1], heap := [.abs 0, .abs 1]
   pre := fun ins => ∃ R M, ins = [.u (.ret R), .u (.mem M)] ∧ M.fine, nout := 3
   out := fun ins => match ins with | [.u (.ret R), .u (.mem M)] => [.u (.ret (R.step M).1), .u (.mem (R.step M).2), .b ((R.step M).1.line == 9)] | _ => []
   ret := .bool (.var 4), post := [.abs 2, .abs 3] }
def cQRStep : Ctr U :=
 { fn := 97, nin := 2, args := [.hnd 0, .hnd 1], heap := [.abs 0, .abs 1]
   pre := fun ins => ∃ R M, ins = [.u (.rret R), .u (.rmem M)] ∧ M.fine, nout := 3
   out := fun ins => match ins with | [.u (.rret R), .u (.rmem M)] => [.u (.rret (R.step M).1), .u (.rmem (R.step M).2), .b ((R.step M).1.line == 9)] | _ => []
   ret := .bool (.var 4), post := [.abs 2, .abs 3] }
def ctsKR : List (Ctr U) := [cGetTop, cPuT]
def ctsMr : List (Ctr U) := [cLoad, cStore, cCAS, cGetTop, cPuT, cRead]
def ctsMq : List (Ctr U) := [cQLoad, cQStore, cQCAS, cQIdx, cQTop]
def cxMi (P : Program) : Cx U := { cx P [] with join := true }
def cxMr (P : Program) : Cx U := { cx P ctsMr with join := true }
def cxMq (P : Program) : Cx U := { cx P ctsMq with join := true }
open Go
def refOk (w : Int) : Bool := decide (w / 281474976710656 % 32768 = 0 ∧ (w % 65536 = 0 → w / 65536 % 4294967296 = 0))
def refO (w : Int) : List (EV U) := if refOk w then [.i (w % 65536 - 1), .i (w / 65536 % 4294967296), .b (decide (w / 9223372036854775808 = 1)), .i 0] else [.i 0, .i 0, .b false, .i 5]
def cGetRefF (f : FuncId) : Ctr U :=
 { fn := f, nin := 1, args := [.int .u64 (.var 0)], heap := []
   pre := fun ins => ∃ w, ins = [.i w] ∧ isW w, nout := 4
   out := fun ins => refO (gI ins 0)
   ret := .tuple [.agg [.int .i64 (.var 1), .int .i64 (.var 2), .bool (.var 3)], .int .i64 (.var 4)], post := [] }
def cGetRef : Ctr U := cGetRefF 105
def cRGetRef : Ctr U := cGetRefF 192
def cxJ (P : Program) (cts : List (Ctr U)) : Cx U := { cx P cts with join := true }
def refusedI (n h a s r high : Int) : Int :=
 if okT n h a s = false then 2 else if refOk r = false then 5 else if r % 65536 - 1 < 0 ∨ r / 9223372036854775808 = 1 ∨ s ≤ r % 65536 - 1 ∨ high < 1 ∨ a < high then 3 else 0
namespace InsSt
def a (I : InsSt) (k : Nat) : Int := I.t[k]?.getD 0
def nx (I : InsSt) (i l : Int) : Int := nextT (I.a 0) (I.a 1) (I.a 2) (I.a 5) i l
def anew (I : InsSt) : FindSt := .new I.t I.key (I.a 2)
def P (I : InsSt) : Int := I.F.P[I.lv.toNat]?.getD 0
def S (I : InsSt) : Int := I.F.S[I.lv.toNat]?.getD 0
def K (I : InsSt) : Int := I.F.K[I.lv.toNat]?.getD 0
def to (I : InsSt) (n lv w : Int) (F : FindSt) (r : Int) (is : Bool) : InsSt := ⟨I.t, I.ref, I.key, I.i, I.high, n, lv, w, F, R0, r, is, 0⟩
def over (r : Int) : InsSt := ⟨[], 0, 0, 0, 0, 0, 0, 0, F0, R0, r, true, 0⟩
def up (I : InsSt) (lv r : Int) : InsSt := if I.high ≤ lv then I.to 9 0 0 F0 r true else I.to 4 lv 0 I.F r true
def waits (I : InsSt) (R : RetSt) (r : Int) : InsSt := ⟨I.t, I.ref, I.key, I.i, I.high, 12, 0, 0, F0, R, r, true, 0⟩
def ld (I : InsSt) (M : MemSt) (l : Int) : MemSt := M.load (I.nx I.i l)
def st (I : InsSt) (M : MemSt) : MemSt := M.store (I.nx I.i I.lv) I.S
def hang (I : InsSt) (M : MemSt) : MemSt := M.cas (I.nx I.P I.lv) I.S I.ref
def tu (I : InsSt) (M : MemSt) : MemSt := M.cas (I.nx I.i I.lv) I.w I.S
def ad (I : InsSt) (M : MemSt) : MemSt := M.add (atT (I.a 0) (I.a 1) (I.a 2) (I.a 5) I.i 3) 18446744073709551615
def step (I : InsSt) (M : MemSt) : InsSt × MemSt :=
 if I.line = 1 then (if (I.F.step M).1.line = 9 then I.to 2 0 0 (I.F.step M).1 (I.F.step M).1.r false else I.to 1 0 0 (I.F.step M).1 (I.F.step M).1.r false, (I.F.step M).2)
 else if I.line = 2 then (if I.lv + 1 < I.high then I.to 2 (I.lv + 1) 0 I.F I.ref false else I.to 3 0 0 I.F I.ref false, I.st M)
 else if I.line = 3 then (if (I.hang M).h = true then I.up 1 I.K else I.to 1 0 0 I.anew I.K false, I.hang M)
 else if I.line = 4 then (if 9223372036854775808 ≤ (I.ld M I.lv).n then I.to 9 0 0 F0 I.ref true else if (I.ld M I.lv).n = I.S then I.to 6 I.lv 0 I.F I.ref true else I.to 5 I.lv (I.ld M I.lv).n I.F I.ref true, I.ld M I.lv)
 else if I.line = 5 then (if (I.tu M).h = true then I.to 6 I.lv 0 I.F I.ref true else I.to 9 0 0 F0 I.ref true, I.tu M)
 else if I.line = 6 then (if (I.hang M).h = true then I.up (I.lv + 1) I.K else I.to 7 I.lv 0 I.anew I.K true, I.hang M)
 else if I.line = 7 then (if (I.F.step M).1.line = 9 then I.to 8 I.lv 0 (I.F.step M).1 (I.F.step M).1.r true else I.to 7 I.lv 0 (I.F.step M).1 (I.F.step M).1.r true, (I.F.step M).2)
 else if I.line = 8 then (if 9223372036854775808 ≤ (I.ld M 0).n then I.to 10 0 0 I.anew I.ref true else I.to 4 I.lv 0 I.F I.ref true, I.ld M 0)
 else if I.line = 9 then (if 9223372036854775808 ≤ (I.ld M 0).n then I.to 10 0 0 I.anew I.ref true else I.to 11 0 0 F0 I.ref true, I.ld M 0)
 else if I.line = 10 then (if (I.F.step M).1.line = 9 then I.to 11 0 0 F0 (I.F.step M).1.r true else I.to 10 0 0 (I.F.step M).1 (I.F.step M).1.r true, (I.F.step M).2)
 else if I.line = 11 then (if (I.ad M).n = 0 then I.waits (.new (I.t.drop 3) (I.a 5) I.i) I.ref else over I.ref, I.ad M)
 else if I.line = 12 then (if (I.R.step M).1.line = 9 then over 0 else I.waits (I.R.step M).1 0, (I.R.step M).2)
 else (I, M)
def new (t : List Int) (r key high : Int) (n h a s : Int) : InsSt :=
 if refusedI n h a s r high = 0 then ⟨t, r, key, idxW s r, high, 1, 0, 0, .new t key a, R0, 0, false, 0⟩ else ⟨[], 0, 0, 0, 0, 0, 0, 0, F0, R0, 0, false, refusedI n h a s r high⟩
def told (I : InsSt) : Int := if I.line = 0 then I.err else 14
end InsSt
def insPre (ins : List (EV U)) : Prop := ∃ a0 a1 a2 a3 a4 a5 a6 a7 a8 a9 a10 a11 a12 r k g : Int, ins = [.i a0, .i a1, .i a2, .i a3, .i a4, .i a5, .i a6, .i a7, .i a8, .i a9, .i a10, .i a11, .i a12, .i r, .i k, .i g] ∧ okT a0 a1 a2 a5 = true ∧ isW r
def insOut (f : InsSt → U) (ins : List (EV U)) : List (EV U) := match ins with | [.i a0, .i a1, .i a2, .i a3, .i a4, .i a5, .i a6, .i a7, .i a8, .i a9, .i a10, .i a11, .i a12, .i r, .i k, .i g] => [.u (f (.new [a0, a1, a2, a3, a4, a5, a6, a7, a8, a9, a10, a11, a12] r k g a0 a1 a2 a5))] | _ => []
def cINew : Ctr U :=
 { fn := 41, nin := 16, args := [twV 0, .int .u64 (.var 13), .int .u64 (.var 14), .int .i64 (.var 15)], heap := [], pre := insPre, nout := 1, out := insOut .ins, ret := .hnd 0, post := [.abs 16] }
def cQINew : Ctr U := { cINew with fn := 42, out := insOut .rins }
def cIStep : Ctr U :=
 { fn := 50, nin := 2, args := [.hnd 0, .hnd 1], heap := [.abs 0, .abs 1]
   pre := fun ins => ∃ I M, ins = [.u (.ins I), .u (.mem M)] ∧ M.fine, nout := 3
   out := fun ins => match ins with | [.u (.ins I), .u (.mem M)] => [.u (.ins (I.step M).1), .u (.mem (I.step M).2), .b ((I.step M).1.line == 0)] | _ => []
   ret := .bool (.var 4), post := [.abs 2, .abs 3] }
def cQIStep : Ctr U :=
 { fn := 58, nin := 2, args := [.hnd 0, .hnd 1], heap := [.abs 0, .abs 1]
   pre := fun ins => ∃ I M, ins = [.u (.rins I), .u (.rmem M)] ∧ M.fine, nout := 3
   out := fun ins => match ins with | [.u (.rins I), .u (.rmem M)] => [.u (.rins (I.step M).1), .u (.rmem (I.step M).2), .b ((I.step M).1.line == 0)] | _ => []
   ret := .bool (.var 4), post := [.abs 2, .abs 3] }
def cIIn : Ctr U :=
 { fn := 45, nin := 1, args := [.hnd 0], heap := [.abs 0], pre := fun ins => ∃ I, ins = [.u (.ins I)], nout := 2
   out := fun ins => match ins with | [.u (.ins I)] => [.u (.ins I), .b I.is] | _ => [], ret := .bool (.var 2), post := [.abs 1] }
def cQIIn : Ctr U :=
 { fn := 127, nin := 1, args := [.hnd 0], heap := [.abs 0], pre := fun ins => ∃ I, ins = [.u (.rins I)], nout := 2
   out := fun ins => match ins with | [.u (.rins I)] => [.u (.rins I), .b I.is] | _ => [], ret := .bool (.var 2), post := [.abs 1] }
def cIBy : Ctr U :=
 { fn := 51, nin := 1, args := [.hnd 0], heap := [.abs 0], pre := fun ins => ∃ I, ins = [.u (.ins I)], nout := 2
   out := fun ins => match ins with | [.u (.ins I)] => [.u (.ins I), .i I.r] | _ => [], ret := .int .u64 (.var 2), post := [.abs 1] }
def cQIBy : Ctr U :=
 { fn := 128, nin := 1, args := [.hnd 0], heap := [.abs 0], pre := fun ins => ∃ I, ins = [.u (.rins I)], nout := 2
   out := fun ins => match ins with | [.u (.rins I)] => [.u (.rins I), .i I.r] | _ => [], ret := .int .u64 (.var 2), post := [.abs 1] }
def cIErr : Ctr U :=
 { fn := 43, nin := 1, args := [.hnd 0], heap := [.abs 0], pre := fun ins => ∃ I, ins = [.u (.ins I)], nout := 2
   out := fun ins => match ins with | [.u (.ins I)] => [.u (.ins I), .i I.told] | _ => [], ret := .int .i64 (.var 2), post := [.abs 1] }
def cQIErr : Ctr U :=
 { fn := 44, nin := 1, args := [.hnd 0], heap := [.abs 0], pre := fun ins => ∃ I, ins = [.u (.rins I)], nout := 2
   out := fun ins => match ins with | [.u (.rins I)] => [.u (.rins I), .i I.told] | _ => [], ret := .int .i64 (.var 2), post := [.abs 1] }
def cIAlike : Ctr U :=
 { fn := 59, nin := 2, args := [.agg [.hnd 0, .hnd 1]], heap := [.abs 0, .abs 1]
   pre := fun ins => (∃ I : InsSt, ins = [.u (.ins I), .u (.rins I)]) ∨ ins = [.u .insNil, .u .rinsNil], nout := 3
   out := fun ins => ins ++ [.b true], ret := .bool (.var 4), post := [.abs 2, .abs 3] }
def insC (by_ : Ex) (place : SV) : HE := .cells [.int .i64 (.var 0), .int .i64 (.var 1), .int .i64 (.var 2), .int .i64 (.var 3), .int .i64 (.var 4), .int .i64 (.var 5), .int .i64 (.var 6), .int .i64 (.var 7), .int .i64 (.var 8), .int .i64 (.var 9), .int .i64 (.var 10), .int .i64 (.var 11), .int .i64 (.var 12), .bool (.var 13), .bool (.var 14), .int .u64 (.var 15), .int .u64 (.var 16), .int .i64 (.var 17), .int .i64 (.var 18), .int .i64 (.var 19), .int .i64 (.var 20), .int .u64 (.var 21), place, .nilp, .int .u64 by_, .int .i64 (.var 23)] 102
def hangPre (ins : List (EV U)) : Prop := ∃ a0 a1 a2 a3 a4 a5 a6 a7 a8 a9 a10 a11 a12 : Int, ∃ made is : Bool, ∃ ref key i high n lv w by_ err : Int, ∃ M F, ins = [.i a0, .i a1, .i a2, .i a3, .i a4, .i a5, .i a6, .i a7, .i a8, .i a9, .i a10, .i a11, .i a12, .b made, .b is, .i ref, .i key, .i i, .i high, .i n, .i lv, .i w, .i by_, .i err, .u (.mem M), .u (.find F)] ∧ F.line = 9 ∧ F.shape a2 ∧ 0 ≤ lv ∧ lv < a2
def hangOut (ins : List (EV U)) : List (EV U) := match ins with | [.i a0, .i a1, .i a2, .i a3, .i a4, .i a5, .i a6, .i a7, .i a8, .i a9, .i a10, .i a11, .i a12, .b made, .b is, .i ref, .i key, .i i, .i high, .i n, .i lv, .i w, .i by_, .i err, .u (.mem M), .u (.find F)] => [.i (F.K[lv.toNat]?.getD 0), .u (.mem (M.cas (nextT a0 a1 a2 a5 (F.P[lv.toNat]?.getD 0) lv) (F.S[lv.toNat]?.getD 0) ref)), .u (.find F), .b (M.cas (nextT a0 a1 a2 a5 (F.P[lv.toNat]?.getD 0) lv) (F.S[lv.toNat]?.getD 0) ref).h] | _ => []
def cHang : Ctr U :=
 { fn := 274, nin := 26, args := [.ptr 0 0, .hnd 1], heap := [insC (.var 22) (.hnd 2), .abs 24, .abs 25], pre := hangPre, nout := 4, out := hangOut
   ret := .bool (.var 29), post := [insC (.var 26) (.hnd 2), .abs 27, .abs 28] }
def anewPre (ins : List (EV U)) : Prop := ∃ a0 a1 a2 a3 a4 a5 a6 a7 a8 a9 a10 a11 a12 : Int, ∃ made is : Bool, ∃ ref key i high n lv w by_ err : Int, ∃ x : EV U, ∃ m : Int, ins = [.i a0, .i a1, .i a2, .i a3, .i a4, .i a5, .i a6, .i a7, .i a8, .i a9, .i a10, .i a11, .i a12, .b made, .b is, .i ref, .i key, .i i, .i high, .i n, .i lv, .i w, .i by_, .i err, x, .i m] ∧ okT a0 a1 a2 a5 = true
def anewOut (ins : List (EV U)) : List (EV U) := match ins with | [.i a0, .i a1, .i a2, .i a3, .i a4, .i a5, .i a6, .i a7, .i a8, .i a9, .i a10, .i a11, .i a12, .b made, .b is, .i ref, .i key, .i i, .i high, .i n, .i lv, .i w, .i by_, .i err, x, .i m] => [.u (.find (.new [a0, a1, a2, a3, a4, a5, a6, a7, a8, a9, a10, a11, a12] key a2))] | _ => []
def cAnew : Ctr U :=
 { fn := 106, nin := 26, args := [.ptr 0 0, .int .i64 (.var 25)], heap := [insC (.var 22) (.hnd 1), .abs 24], pre := anewPre, nout := 1, out := anewOut
   ret := .int .i64 (.var 25), post := [insC (.var 22) (.hnd 2), .abs 24, .abs 26] }
def ctsHs : List (Ctr U) := [cFNew, cFStep, cFBy, cFPreds, cFSuccs, cFKnown, cNextP, cAt, cLoad, cStore, cCAS, cAdd, cRNew, cRStep, cHang, cAnew]
def ctsHt : List (Ctr U) := [cQFNew, cQFStep, cQBy, cQPreds, cQSuccs, cQKnown, cNextQ, cRAt, cQLoad, cQStore, cQCAS, cQAdd, cQRNew, cQRStep]
def ctsHn : List (Ctr U) := [cAt, cGetRef, cFNew]
def ctsHm : List (Ctr U) := [cDSnd, cRGetRef, cIdxQ, cQFNew]
def ctsHa : List (Ctr U) := [cIIn, cQIIn, cIBy, cQIBy, cIErr, cQIErr]
def cxHs (P : Program) (l : List (LoopS U)) : Cx U := { cx P ctsHs with join := true, loops := l }
def cxHt (P : Program) : Cx U := { cx P ctsHt with join := true }
def ctsHg : List (Ctr U) := [cFPreds, cFSuccs, cFKnown, cNextP, cCAS]
def cxHg (P : Program) : Cx U := { cx P ctsHg with join := true }
def cxHw (P : Program) : Cx U := { cx P [cFNew] with join := true }
def cxHn (P : Program) : Cx U := { cx P ctsHn with join := true }
def cxHm (P : Program) : Cx U := { cx P ctsHm with join := true }
def cxHo (P : Program) : Cx U := { cx P [] with join := true }
def cxHa (P : Program) : Cx U := { cx P ctsHa with join := true }
def hsInv (env : List (EV U)) : Prop := ∃ a0 a1 a2 a3 a4 a5 a6 a7 a8 a9 a10 a11 a12 ref key i high lv w by_ : Int, ∃ F : FindSt, ∃ M M' : MemSt, ∃ j : Int,
 env = [.u (.ins ⟨[a0, a1, a2, a3, a4, a5, a6, a7, a8, a9, a10, a11, a12], ref, key, i, high, 2, lv, 0, F, R0, by_, false, 0⟩), .u (.mem M), .i a0, .i a1, .i a2, .i a3, .i a4, .i a5, .i a6, .i a7, .i a8, .i a9, .i a10, .i a11, .i a12, .i ref, .i key, .i i, .i high, .i lv, .i w, .i by_, .u (.find F), .u (.mem M'), .u (.find F), .i j] ∧
 okI a0 a1 a2 a5 i high ∧ F.shape a2 ∧ F.line = 9 ∧ 0 ≤ lv ∧ lv < high ∧ M.fine ∧ 0 ≤ j ∧ j ≤ high ∧ M' = if j ≤ lv then M else M.store (nextT a0 a1 a2 a5 i lv) (F.S[lv.toNat]?.getD 0)
def lHS : LoopS U :=
 { fn := 200, rid := 3, nv := 3, tm := [(17, .int .i64 (.var 25))], hp := [(1, .abs 23), (2, .abs 24)], reb := [], inv := hsInv, mu := fun env => (gI env 18 - gI env 25).toNat }
end Go.Proofs.YtdldcofddfkkbaaGreat
