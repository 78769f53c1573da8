/- Texts of this proof. -/
import Derived.Test.YtbmbiiiacajolaaB3K
import Derived.Test.YtbmbiiiacajolaaLtK
namespace Go.Proofs.Ytbmbiiiacajolaa
set_option linter.unusedVariables false
set_option linter.unusedSimpArgs false
set_option linter.unusedSectionVars false
open Go Go.RowKit
def va (l : List Nat) (r : List Bnd) : List Bnd := (l.map fun n => .ex (.var n)) ++ r
def vr : Nat → Nat → List Bnd → List Bnd
 | _, 0, r => r
 | a, n + 1, r => .ex (.var a) :: vr (a + 1) n r
theorem va_map : (∀ (e : List (EV U)) (l : List Nat) (r : List Bnd), (va l r).map (Bnd.den e) = (l.map fun n => EV.i (gI e n)) ++ r.map (Bnd.den e)) ∧ (∀ (a : Nat) (r : List Bnd), vr a 0 r = r) ∧ ∀ (a n : Nat) (r : List Bnd), vr a (n + 1) r = .ex (.var a) :: vr (a + 1) n r :=
 ⟨fun e l r => by rw [va, List.map_append, List.map_map]; rfl, fun _ _ => rfl, fun _ _ _ => rfl⟩
def idxW (size w : Int) : Int := if w % 65536 - 1 ≥ size then -1 else w % 65536 - 1
def nextT (n h a s i l : Int) : Int := if l < 0 ∨ 4 ≤ l then -1 else atT n h a s i (4 + l)
namespace FindSt
def a (F : FindSt) (i : Nat) : Int := F.t[i]?.getD 0
def nx (F : FindSt) (i : Int) : Int := nextT (F.a 0) (F.a 1) (F.a 2) (F.a 5) i F.l
def ix (F : FindSt) : Int := idxW (F.a 5) F.cur
def anew (F : FindSt) (r : Int) : FindSt := ⟨F.t, F.key, 1, F.a 2 - 1, -1, 0, 0, 0, F.P, F.S, F.K, r⟩
def done (F : FindSt) (r : Int) : FindSt :=
 if F.l = 0 then ⟨F.t, F.key, 9, 0, 0, 0, 0, 0, F.P.set F.l.toNat F.pred, F.S.set F.l.toNat F.cur, F.K.set F.l.toNat F.ref, r⟩
 else ⟨F.t, F.key, 1, F.l - 1, F.pred, F.ref, 0, 0, F.P.set F.l.toNat F.pred, F.S.set F.l.toNat F.cur, F.K.set F.l.toNat F.ref, r⟩
def looks (F : FindSt) (r : Int) : FindSt := if F.ix < 0 then F.done r else ⟨F.t, F.key, 2, F.l, F.pred, F.ref, F.cur, 0, F.P, F.S, F.K, r⟩
def at_ (F : FindSt) : Int := if F.line = 1 ∨ F.line = 3 then F.nx F.pred else if F.line = 2 then F.nx F.ix else atT (F.a 0) (F.a 1) (F.a 2) (F.a 5) F.ix 0
def step (F : FindSt) (M : MemSt) : FindSt × MemSt :=
 if F.line = 1 then (if 9223372036854775808 ≤ (M.load F.at_).n then F.anew F.ref else FindSt.looks ⟨F.t, F.key, 1, F.l, F.pred, F.ref, (M.load F.at_).n, 0, F.P, F.S, F.K, 0⟩ F.ref, M.load F.at_)
 else if F.line = 2 then (⟨F.t, F.key, if 9223372036854775808 ≤ (M.load F.at_).n then 3 else 4, F.l, F.pred, F.ref, F.cur, (M.load F.at_).n, F.P, F.S, F.K, F.cur⟩, M.load F.at_)
 else if F.line = 3 then (if (M.cas F.at_ F.cur (F.w % 9223372036854775808)).h = true then FindSt.looks ⟨F.t, F.key, 1, F.l, F.pred, F.ref, F.w % 9223372036854775808, 0, F.P, F.S, F.K, 0⟩ F.ref else F.anew F.ref, M.cas F.at_ F.cur (F.w % 9223372036854775808))
 else if F.line = 4 then (if (M.load F.at_).n < F.key then FindSt.looks ⟨F.t, F.key, 1, F.l, F.ix, F.cur, F.w, 0, F.P, F.S, F.K, 0⟩ F.cur else F.done F.cur, M.load F.at_)
 else (F, M)
def fit (F : FindSt) : Prop := F.P.length ≤ 4 ∧ F.S.length ≤ 4 ∧ F.K.length ≤ 4
def new (t : List Int) (key : Int) (h : Int) : FindSt := ⟨t, key, 1, h - 1, -1, 0, 0, 0, List.replicate h.toNat 0, List.replicate h.toNat 0, List.replicate h.toNat 0, 0⟩
end FindSt
def cNextP : Ctr U := { fn := 16, nin := 15, args := [twV 0, .int .i64 (.var 13), .int .i64 (.var 14)], heap := [], pre := atPre, nout := 1
                        out := fun ins => [.i (nextT (gI ins 0) (gI ins 1) (gI ins 2) (gI ins 5) (gI ins 13) (gI ins 14))], ret := .int .i64 (.var 15), post := [] }
def cFIdx1 : Ctr U :=
 { fn := 78, nin := 30, args := [.ptr 0 0, .int .u64 (.var 25)], heap := [.cells [.int .i64 (.var 0), .int .i64 (.var 1), .int .i64 (.var 2), .int .i64 (.var 3), .int .i64 (.var 4), .int .i64 (.var 5), .int .i64 (.var 6), .int .i64 (.var 7), .int .i64 (.var 8), .int .i64 (.var 9), .int .i64 (.var 10), .int .i64 (.var 11), .int .i64 (.var 12), .int .u64 (.var 13), .int .i64 (.var 14), .int .i64 (.var 15), .int .i64 (.var 16), .int .u64 (.var 17), .int .u64 (.var 18), .int .u64 (.var 19), .slice 1 (.var 20) (.var 21), .int .u64 (.var 22), .bool (.var 23), .int .i64 (.var 24)] 71, .cells [.int .i64 (.var 26), .int .i64 (.var 27), .int .u64 (.var 28), .int .u64 (.var 29)] 68]
   pre := fun ins => isW (gI ins 25), nout := 1, out := fun ins => [.i (idxW (gI ins 5) (gI ins 25))], ret := .int .i64 (.var 30), post := [.cells [.int .i64 (.var 0), .int .i64 (.var 1), .int .i64 (.var 2), .int .i64 (.var 3), .int .i64 (.var 4), .int .i64 (.var 5), .int .i64 (.var 6), .int .i64 (.var 7), .int .i64 (.var 8), .int .i64 (.var 9), .int .i64 (.var 10), .int .i64 (.var 11), .int .i64 (.var 12), .int .u64 (.var 13), .int .i64 (.var 14), .int .i64 (.var 15), .int .i64 (.var 16), .int .u64 (.var 17), .int .u64 (.var 18), .int .u64 (.var 19), .slice 1 (.var 20) (.var 21), .int .u64 (.var 22), .bool (.var 23), .int .i64 (.var 24)] 71, .cells [.int .i64 (.var 26), .int .i64 (.var 27), .int .u64 (.var 28), .int .u64 (.var 29)] 68] }
def cFIdx2 : Ctr U :=
 { fn := 78, nin := 34, args := [.ptr 0 0, .int .u64 (.var 25)], heap := [.cells [.int .i64 (.var 0), .int .i64 (.var 1), .int .i64 (.var 2), .int .i64 (.var 3), .int .i64 (.var 4), .int .i64 (.var 5), .int .i64 (.var 6), .int .i64 (.var 7), .int .i64 (.var 8), .int .i64 (.var 9), .int .i64 (.var 10), .int .i64 (.var 11), .int .i64 (.var 12), .int .u64 (.var 13), .int .i64 (.var 14), .int .i64 (.var 15), .int .i64 (.var 16), .int .u64 (.var 17), .int .u64 (.var 18), .int .u64 (.var 19), .slice 1 (.var 20) (.var 21), .int .u64 (.var 22), .bool (.var 23), .int .i64 (.var 24)] 71, .cells [.int .i64 (.var 26), .int .i64 (.var 27), .int .u64 (.var 28), .int .u64 (.var 29), .int .i64 (.var 30), .int .i64 (.var 31), .int .u64 (.var 32), .int .u64 (.var 33)] 68]
   pre := fun ins => isW (gI ins 25), nout := 1, out := fun ins => [.i (idxW (gI ins 5) (gI ins 25))], ret := .int .i64 (.var 34), post := [.cells [.int .i64 (.var 0), .int .i64 (.var 1), .int .i64 (.var 2), .int .i64 (.var 3), .int .i64 (.var 4), .int .i64 (.var 5), .int .i64 (.var 6), .int .i64 (.var 7), .int .i64 (.var 8), .int .i64 (.var 9), .int .i64 (.var 10), .int .i64 (.var 11), .int .i64 (.var 12), .int .u64 (.var 13), .int .i64 (.var 14), .int .i64 (.var 15), .int .i64 (.var 16), .int .u64 (.var 17), .int .u64 (.var 18), .int .u64 (.var 19), .slice 1 (.var 20) (.var 21), .int .u64 (.var 22), .bool (.var 23), .int .i64 (.var 24)] 71, .cells [.int .i64 (.var 26), .int .i64 (.var 27), .int .u64 (.var 28), .int .u64 (.var 29), .int .i64 (.var 30), .int .i64 (.var 31), .int .u64 (.var 32), .int .u64 (.var 33)] 68] }
def cFIdx3 : Ctr U :=
 { fn := 78, nin := 38, args := [.ptr 0 0, .int .u64 (.var 25)], heap := [.cells [.int .i64 (.var 0), .int .i64 (.var 1), .int .i64 (.var 2), .int .i64 (.var 3), .int .i64 (.var 4), .int .i64 (.var 5), .int .i64 (.var 6), .int .i64 (.var 7), .int .i64 (.var 8), .int .i64 (.var 9), .int .i64 (.var 10), .int .i64 (.var 11), .int .i64 (.var 12), .int .u64 (.var 13), .int .i64 (.var 14), .int .i64 (.var 15), .int .i64 (.var 16), .int .u64 (.var 17), .int .u64 (.var 18), .int .u64 (.var 19), .slice 1 (.var 20) (.var 21), .int .u64 (.var 22), .bool (.var 23), .int .i64 (.var 24)] 71, .cells [.int .i64 (.var 26), .int .i64 (.var 27), .int .u64 (.var 28), .int .u64 (.var 29), .int .i64 (.var 30), .int .i64 (.var 31), .int .u64 (.var 32), .int .u64 (.var 33), .int .i64 (.var 34), .int .i64 (.var 35), .int .u64 (.var 36), .int .u64 (.var 37)] 68]
   pre := fun ins => isW (gI ins 25), nout := 1, out := fun ins => [.i (idxW (gI ins 5) (gI ins 25))], ret := .int .i64 (.var 38), post := [.cells [.int .i64 (.var 0), .int .i64 (.var 1), .int .i64 (.var 2), .int .i64 (.var 3), .int .i64 (.var 4), .int .i64 (.var 5), .int .i64 (.var 6), .int .i64 (.var 7), .int .i64 (.var 8), .int .i64 (.var 9), .int .i64 (.var 10), .int .i64 (.var 11), .int .i64 (.var 12), .int .u64 (.var 13), .int .i64 (.var 14), .int .i64 (.var 15), .int .i64 (.var 16), .int .u64 (.var 17), .int .u64 (.var 18), .int .u64 (.var 19), .slice 1 (.var 20) (.var 21), .int .u64 (.var 22), .bool (.var 23), .int .i64 (.var 24)] 71, .cells [.int .i64 (.var 26), .int .i64 (.var 27), .int .u64 (.var 28), .int .u64 (.var 29), .int .i64 (.var 30), .int .i64 (.var 31), .int .u64 (.var 32), .int .u64 (.var 33), .int .i64 (.var 34), .int .i64 (.var 35), .int .u64 (.var 36), .int .u64 (.var 37)] 68] }
def cFIdx4 : Ctr U :=
 { fn := 78, nin := 42, args := [.ptr 0 0, .int .u64 (.var 25)], heap := [.cells [.int .i64 (.var 0), .int .i64 (.var 1), .int .i64 (.var 2), .int .i64 (.var 3), .int .i64 (.var 4), .int .i64 (.var 5), .int .i64 (.var 6), .int .i64 (.var 7), .int .i64 (.var 8), .int .i64 (.var 9), .int .i64 (.var 10), .int .i64 (.var 11), .int .i64 (.var 12), .int .u64 (.var 13), .int .i64 (.var 14), .int .i64 (.var 15), .int .i64 (.var 16), .int .u64 (.var 17), .int .u64 (.var 18), .int .u64 (.var 19), .slice 1 (.var 20) (.var 21), .int .u64 (.var 22), .bool (.var 23), .int .i64 (.var 24)] 71, .cells [.int .i64 (.var 26), .int .i64 (.var 27), .int .u64 (.var 28), .int .u64 (.var 29), .int .i64 (.var 30), .int .i64 (.var 31), .int .u64 (.var 32), .int .u64 (.var 33), .int .i64 (.var 34), .int .i64 (.var 35), .int .u64 (.var 36), .int .u64 (.var 37), .int .i64 (.var 38), .int .i64 (.var 39), .int .u64 (.var 40), .int .u64 (.var 41)] 68]
   pre := fun ins => isW (gI ins 25), nout := 1, out := fun ins => [.i (idxW (gI ins 5) (gI ins 25))], ret := .int .i64 (.var 42), post := [.cells [.int .i64 (.var 0), .int .i64 (.var 1), .int .i64 (.var 2), .int .i64 (.var 3), .int .i64 (.var 4), .int .i64 (.var 5), .int .i64 (.var 6), .int .i64 (.var 7), .int .i64 (.var 8), .int .i64 (.var 9), .int .i64 (.var 10), .int .i64 (.var 11), .int .i64 (.var 12), .int .u64 (.var 13), .int .i64 (.var 14), .int .i64 (.var 15), .int .i64 (.var 16), .int .u64 (.var 17), .int .u64 (.var 18), .int .u64 (.var 19), .slice 1 (.var 20) (.var 21), .int .u64 (.var 22), .bool (.var 23), .int .i64 (.var 24)] 71, .cells [.int .i64 (.var 26), .int .i64 (.var 27), .int .u64 (.var 28), .int .u64 (.var 29), .int .i64 (.var 30), .int .i64 (.var 31), .int .u64 (.var 32), .int .u64 (.var 33), .int .i64 (.var 34), .int .i64 (.var 35), .int .u64 (.var 36), .int .u64 (.var 37), .int .i64 (.var 38), .int .i64 (.var 39), .int .u64 (.var 40), .int .u64 (.var 41)] 68] }
def twH (h : Int) : SV := .agg [.int .i64 (.var 0), .int .i64 (.var 1), .int .i64 (.lit h), .int .i64 (.var 3), .int .i64 (.var 4), .int .i64 (.var 5), .int .i64 (.var 6), .int .i64 (.var 7), .int .i64 (.var 8), .int .i64 (.var 9), .int .i64 (.var 10), .int .i64 (.var 11), .int .i64 (.var 12)]
def newPre (h : Int) (ins : List (EV U)) : Prop := ∃ a0 a1 a2 a3 a4 a5 a6 a7 a8 a9 a10 a11 a12 k : Int, ins = [.i a0, .i a1, .i a2, .i a3, .i a4, .i a5, .i a6, .i a7, .i a8, .i a9, .i a10, .i a11, .i a12, .i k] ∧ a2 = h ∧ okT a0 a1 h a5 = true
def newPreA (ins : List (EV U)) : Prop := ∃ a0 a1 a2 a3 a4 a5 a6 a7 a8 a9 a10 a11 a12 k : Int, ins = [.i a0, .i a1, .i a2, .i a3, .i a4, .i a5, .i a6, .i a7, .i a8, .i a9, .i a10, .i a11, .i a12, .i k] ∧ okT a0 a1 a2 a5 = true
def newOut (f : FindSt → U) (ins : List (EV U)) : List (EV U) := match ins with | [.i a0, .i a1, .i a2, .i a3, .i a4, .i a5, .i a6, .i a7, .i a8, .i a9, .i a10, .i a11, .i a12, .i k] => [.u (f (.new [a0, a1, a2, a3, a4, a5, a6, a7, a8, a9, a10, a11, a12] k a2))] | _ => []
def cFNewH (h : Int) : Ctr U :=
 { fn := 38, nin := 14, args := [twH h, .int .u64 (.var 13)], heap := [], pre := newPre h, nout := 1, out := newOut .find, ret := .hnd 0, post := [.abs 14] }
def cFNew : Ctr U :=
 { fn := 38, nin := 14, args := [twV 0, .int .u64 (.var 13)], heap := [], pre := newPreA, nout := 1, out := newOut .find, ret := .hnd 0, post := [.abs 14] }
def cFStep : Ctr U :=
 { fn := 32, nin := 2, args := [.hnd 0, .hnd 1], heap := [.abs 0, .abs 1]
   pre := fun ins => ∃ F M, ins = [.u (.find F), .u (.mem M)] ∧ M.fine, nout := 3
   out := fun ins => match ins with | [.u (.find F), .u (.mem M)] => [.u (.find (F.step M).1), .u (.mem (F.step M).2), .b ((F.step M).1.line == 9)] | _ => []
   ret := .bool (.var 4), post := [.abs 2, .abs 3] }
def cFStepP (p : FindSt → Prop) : Ctr U := { cFStep with pre := fun ins => ∃ F M, ins = [.u (.find F), .u (.mem M)] ∧ M.fine ∧ p F }
def high (h : Int) (F : FindSt) : Prop := F.a 2 = h
def highX (F : FindSt) : Prop := ¬ F.a 2 = 1 ∧ ¬ F.a 2 = 2 ∧ ¬ F.a 2 = 3
def FindSt.told (F : FindSt) (L : List Int) : List Int := if F.line = 9 then L else []
def rowOut (x : EV U) (xs c : List Int) : List (EV U) := [x, .l (xs ++ c), .i xs.length, .i ((xs.length + c.length : Nat) : Int)]
def rowF (g : FindSt → List Int) (c : List Int) (ins : List (EV U)) : List (EV U) := match ins with | [.u (.find F)] => rowOut (.u (.find F)) (F.told (g F)) c | _ => []
def cFPreds : Ctr U :=
 { fn := 34, nin := 1, args := [.hnd 0], heap := [.abs 0], pre := fun ins => ∃ F, ins = [.u (.find F)], nout := 4, out := fun _ => []
   many := some (rowF FindSt.P), ret := .slice 1 (.var 3) (.var 4), post := [.abs 1, .row .i64 3 2] }
def cFSuccs : Ctr U := { cFPreds with fn := 35, many := some (rowF FindSt.S), post := [.abs 1, .row .u64 42 2] }
def cFKnown : Ctr U := { cFPreds with fn := 36, many := some (rowF FindSt.K), post := [.abs 1, .row .u64 42 2] }
def cFBy : Ctr U :=
 { fn := 37, nin := 1, args := [.hnd 0], heap := [.abs 0], pre := fun ins => ∃ F, ins = [.u (.find F)], nout := 2
   out := fun ins => match ins with | [.u (.find F)] => [.u (.find F), .i F.r] | _ => [], ret := .int .u64 (.var 2), post := [.abs 1] }
def errF (F : FindSt) : Int := if F.line = 9 then 0 else 14
def cFErr : Ctr U :=
 { fn := 33, nin := 1, args := [.hnd 0], heap := [.abs 0], pre := fun ins => ∃ F, ins = [.u (.find F)], nout := 2
   out := fun ins => match ins with | [.u (.find F)] => [.u (.find F), .i (errF F)] | _ => [], ret := .int .i64 (.var 2), post := [.abs 1] }
def cSameInts : Ctr U :=
 { fn := 45, nin := 6, args := [.slice 0 (.var 2) (.var 3), .slice 1 (.var 4) (.var 5)], heap := [.row .i64 3 0, .row .i64 3 1]
   pre := fun ins => ∃ xs ys a b c d, ins = [.l xs, .l ys, .i a, .i c, .i b, .i d] ∧ 0 ≤ a ∧ a ≤ xs.length ∧ 0 ≤ b ∧ b ≤ ys.length ∧ a < 2 ^ 62, nout := 1
   out := fun ins => match ins with | [.l xs, .l ys, .i a, _, .i b, _] => [.b (decide (xs.take a.toNat = ys.take b.toNat))] | _ => []
   ret := .bool (.var 6), post := [.row .i64 3 0, .row .i64 3 1] }
def lSameInts : LoopS U := { lSameWords with fn := 45 }
def ctsQn : List (Ctr U) := [cNextP]
def ctsQs : List (Ctr U) := [cNextP, cAt, cLoad, cCAS, cFIdx1, cFIdx2, cFIdx3, cFIdx4]
def cxQ0 (P : Program) : Cx U := { cx P [cAt] with join := true }
def cxQi (P : Program) : Cx U := { cx P [] with join := true }
def cxQw (P : Program) : Cx U := { cx P [] with join := true, loops := [lSameInts] }
def cxQn (P : Program) : Cx U := { cx P ctsQn with join := true }
def cxQs (P : Program) : Cx U := { cx P ctsQs with join := true }
end Go.Proofs.Ytbmbiiiacajolaa
