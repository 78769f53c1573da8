import Derived.Test.YtbmbiiiacajolaaGreatYaM
import Derived.KernelRfl
/- Levels of a tower, on both sides: contracts. -/
namespace Go.Proofs.YtbmbiiiacajolaaGreat
set_option linter.unusedVariables false
set_option linter.unusedSimpArgs false
set_option linter.unusedSectionVars false
open Go

/-- the cell of what is behind a node on a level -/
def nextT (n h a s i l : Int) : Int := if l < 0 ∨ 4 ≤ l then -1 else atT n h a s i (4 + l)
/-- the nodes of a level from one on, at most so many -/
def levelK (M : MemSt) (n h a s l : Int) : Nat → Int → List Int
  | 0, _ => []
  | k + 1, i => if i < 0 then [] else i :: levelK M n h a s l k (idxW s (M.at0 (nextT n h a s i l)))
def levelT (M : MemSt) (n h a s l : Int) : List Int := if nextT n h a s (-1) l < 0 then [] else levelK M n h a s l s.toNat (idxW s (M.at0 (nextT n h a s (-1) l)))
def goesT (M : MemSt) (n h a s i : Int) : Bool := decide (M.at0 (nextT n h a s i 0) / 9223372036854775808 = 0)
def liveT (M : MemSt) (n h a s : Int) : List Int := (levelT M n h a s 0).filter (goesT M n h a s)

def cNextP : Ctr U := { fn := 46, nin := 15, args := [twV 0, .int .i64 (.var 13), .int .i64 (.var 14)], heap := [], pre := atPre, nout := 1
                        out := fun ins => [.i (nextT (gI ins 0) (gI ins 1) (gI ins 2) (gI ins 5) (gI ins 13) (gI ins 14))], ret := .int .i64 (.var 15), post := [] }
def cNextQ : Ctr U := { cNextP with fn := 62 }
def levelPre (ins : List (EV U)) : Prop := ∃ M : MemSt, ∃ a0 a1 a2 a3 a4 a5 a6 a7 a8 a9 a10 a11 a12 l : Int, ins = [.u (.mem M), .i a0, .i a1, .i a2, .i a3, .i a4, .i a5, .i a6, .i a7, .i a8, .i a9, .i a10, .i a11, .i a12, .i l] ∧ M.fine ∧ okT a0 a1 a2 a5 = true
def qlevelPre (ins : List (EV U)) : Prop := ∃ M : MemSt, ∃ a0 a1 a2 a3 a4 a5 a6 a7 a8 a9 a10 a11 a12 l : Int, ins = [.u (.rmem M), .i a0, .i a1, .i a2, .i a3, .i a4, .i a5, .i a6, .i a7, .i a8, .i a9, .i a10, .i a11, .i a12, .i l] ∧ M.fine ∧ okT a0 a1 a2 a5 = true
def rowOut (x : EV U) (xs c : List Int) : List (EV U) := [x, .l (xs ++ c), .i xs.length, .i ((xs.length + c.length : Nat) : Int)]
def levelMany (c : List Int) (ins : List (EV U)) : List (EV U) := match ins with
  | [.u (.mem M), .i a0, .i a1, .i a2, _, _, .i a5, _, _, _, _, _, _, _, .i l] => rowOut (.u (.mem M)) (levelT M a0 a1 a2 a5 l) c | _ => []
def qlevelMany (c : List Int) (ins : List (EV U)) : List (EV U) := match ins with
  | [.u (.rmem M), .i a0, .i a1, .i a2, _, _, .i a5, _, _, _, _, _, _, _, .i l] => rowOut (.u (.rmem M)) (levelT M a0 a1 a2 a5 l) c | _ => []
def cLevel : Ctr U :=
  { fn := 91, nin := 15, args := [twV 1, .int .i64 (.var 14), .hnd 0], heap := [.abs 0]
    pre := levelPre, nout := 4, out := fun _ => [], many := some levelMany, ret := .slice 1 (.var 17) (.var 18), post := [.abs 15, .row .i64 3 16] }
def cQLevel : Ctr U :=
  { fn := 93, nin := 15, args := [twV 1, .int .i64 (.var 14), .hnd 0], heap := [.abs 0]
    pre := qlevelPre, nout := 4, out := fun _ => [], many := some qlevelMany, ret := .slice 1 (.var 17) (.var 18), post := [.abs 15, .row .i64 3 16] }
def livePre (ins : List (EV U)) : Prop := ∃ M : MemSt, ∃ a0 a1 a2 a3 a4 a5 a6 a7 a8 a9 a10 a11 a12 : Int, ins = [.u (.mem M), .i a0, .i a1, .i a2, .i a3, .i a4, .i a5, .i a6, .i a7, .i a8, .i a9, .i a10, .i a11, .i a12] ∧ M.fine ∧ okT a0 a1 a2 a5 = true
def qlivePre (ins : List (EV U)) : Prop := ∃ M : MemSt, ∃ a0 a1 a2 a3 a4 a5 a6 a7 a8 a9 a10 a11 a12 : Int, ins = [.u (.rmem M), .i a0, .i a1, .i a2, .i a3, .i a4, .i a5, .i a6, .i a7, .i a8, .i a9, .i a10, .i a11, .i a12] ∧ M.fine ∧ okT a0 a1 a2 a5 = true
def liveMany (c : List Int) (ins : List (EV U)) : List (EV U) := match ins with
  | [.u (.mem M), .i a0, .i a1, .i a2, _, _, .i a5, _, _, _, _, _, _, _] => rowOut (.u (.mem M)) (liveT M a0 a1 a2 a5) c | _ => []
def qliveMany (c : List Int) (ins : List (EV U)) : List (EV U) := match ins with
  | [.u (.rmem M), .i a0, .i a1, .i a2, _, _, .i a5, _, _, _, _, _, _, _] => rowOut (.u (.rmem M)) (liveT M a0 a1 a2 a5) c | _ => []
def cLive : Ctr U :=
  { fn := 92, nin := 14, args := [twV 1, .hnd 0], heap := [.abs 0]
    pre := livePre, nout := 4, out := fun _ => [], many := some liveMany, ret := .slice 1 (.var 16) (.var 17), post := [.abs 14, .row .i64 3 15] }
def cQLive : Ctr U :=
  { fn := 94, nin := 14, args := [twV 1, .hnd 0], heap := [.abs 0]
    pre := qlivePre, nout := 4, out := fun _ => [], many := some qliveMany, ret := .slice 1 (.var 16) (.var 17), post := [.abs 14, .row .i64 3 15] }
def cMemAt : Ctr U :=
  { fn := 124, nin := 4, args := [.slice 0 (.var 1) (.var 2), .int .i64 (.var 3)], heap := [.row .u64 43 0]
    pre := fun ins => ∃ W c k, ins = [.l W, .i W.length, .i c, .i k] ∧ W.length ≤ 4096, nout := 1
    out := fun ins => match ins with | [.l W, _, _, .i k] => [.i (if 0 ≤ k ∧ k < W.length then W[k.toNat]?.getD 0 else 0)] | _ => []
    ret := .int .u64 (.var 4), post := [.row .u64 43 0] }
def ctsYb : List (Ctr U) := [cWords, cIdxP, cNextP, cSnd15, cMemAt]
def ctsYq : List (Ctr U) := [cQAt, cIdxQ, cNextQ]
def ctsYl : List (Ctr U) := [cQAt, cIdxQ, cNextQ, cQLevel]
def cxYb0 (P : Program) : Cx U := { cx P [cAt] with join := true }
def cxYb1 (P : Program) : Cx U := { cx P [cRAt] with join := true }
def cxYb (P : Program) (l : List (LoopS U)) : Cx U := { cx P ctsYb with join := true, loops := l }
def cxYbq (P : Program) (l : List (LoopS U)) : Cx U := { cx P ctsYq with join := true, loops := l }
def cxYbl (P : Program) (l : List (LoopS U)) : Cx U := { cx P ctsYl with join := true, loops := l }
/-! loops -/
/-! loops -/
/-! loops -/
def levInv (env : List (EV U)) : Prop := ∃ M : MemSt, ∃ a0 a1 a2 a3 a4 a5 a6 a7 a8 a9 a10 a11 a12 l : Int, ∃ x15 x19 x20 x21 x22 : EV U, ∃ i k : Int, ∃ xs : List Int, ∃ c : Int, env = [.u (.mem M), .i a0, .i a1, .i a2, .i a3, .i a4, .i a5, .i a6, .i a7, .i a8, .i a9, .i a10, .i a11, .i a12, .i l, x15, .u (.mem M), .l M.W, .i M.W.length, x19, x20, x21, x22, .i i, .i k, .l xs, .i c] ∧
  M.fine ∧ okT a0 a1 a2 a5 = true ∧ 0 ≤ k ∧ k ≤ a5 ∧ c = xs.length ∧ k ≤ c ∧ xs.take k.toNat ++ levelK M a0 a1 a2 a5 l (a5.toNat - k.toNat) i = levelT M a0 a1 a2 a5 l ∧ i ≤ 65534
def livInv (env : List (EV U)) : Prop := ∃ M : MemSt, ∃ a0 a1 a2 a3 a4 a5 a6 a7 a8 a9 a10 a11 a12 : Int, ∃ x14 x18 x19 x20 x21 : EV U, ∃ i k m : Int, ∃ xs : List Int, ∃ c : Int, env = [.u (.mem M), .i a0, .i a1, .i a2, .i a3, .i a4, .i a5, .i a6, .i a7, .i a8, .i a9, .i a10, .i a11, .i a12, x14, .u (.mem M), .l M.W, .i M.W.length, x18, x19, x20, x21, .i i, .i k, .i m, .l xs, .i c] ∧
  M.fine ∧ okT a0 a1 a2 a5 = true ∧ 0 ≤ k ∧ k ≤ a5 ∧ 0 ≤ m ∧ m ≤ k ∧ c = xs.length ∧ m ≤ c ∧ xs.take m.toNat ++ (levelK M a0 a1 a2 a5 0 (a5.toNat - k.toNat) i).filter (goesT M a0 a1 a2 a5) = liveT M a0 a1 a2 a5 ∧ i ≤ 65534
def qlevInv (env : List (EV U)) : Prop := ∃ M : MemSt, ∃ a0 a1 a2 a3 a4 a5 a6 a7 a8 a9 a10 a11 a12 l : Int, ∃ x15 x16 x17 x18 x19 : EV U, ∃ i k : Int, ∃ xs : List Int, ∃ c : Int, env = [.u (.rmem M), .i a0, .i a1, .i a2, .i a3, .i a4, .i a5, .i a6, .i a7, .i a8, .i a9, .i a10, .i a11, .i a12, .i l, x15, x16, x17, x18, x19, .i i, .i k, .l xs, .i c, .u (.rmem M)] ∧
  M.fine ∧ okT a0 a1 a2 a5 = true ∧ 0 ≤ k ∧ k ≤ a5 ∧ c = xs.length ∧ k ≤ c ∧ xs.take k.toNat ++ levelK M a0 a1 a2 a5 l (a5.toNat - k.toNat) i = levelT M a0 a1 a2 a5 l ∧ i ≤ 65534
def qlivInv (env : List (EV U)) : Prop := ∃ M : MemSt, ∃ a0 a1 a2 a3 a4 a5 a6 a7 a8 a9 a10 a11 a12 : Int, ∃ L L2 : List Int, ∃ x17 : EV U, ∃ k m : Int, ∃ xs : List Int, ∃ c : Int, env = [.u (.rmem M), .i a0, .i a1, .i a2, .i a3, .i a4, .i a5, .i a6, .i a7, .i a8, .i a9, .i a10, .i a11, .i a12, .u (.rmem M), .l (L ++ L2), .i L.length, x17, .i k, .i m, .l xs, .i c, .u (.rmem M)] ∧
  M.fine ∧ okT a0 a1 a2 a5 = true ∧ L = levelT M a0 a1 a2 a5 0 ∧ L.length ≤ 128 ∧ 0 ≤ k ∧ k ≤ L.length ∧ 0 ≤ m ∧ m ≤ k ∧ c = xs.length ∧ m ≤ c ∧ xs.take m.toNat ++ (L.drop k.toNat).filter (goesT M a0 a1 a2 a5) = liveT M a0 a1 a2 a5
def lLevel : LoopS U :=
  { fn := 142, rid := 2, nv := 4, tm := [(5, .int .i64 (.var 23)), (6, .int .i64 (.var 24))], hp := [(2, .cells [.slice 9 (.var 24) (.var 26)] 79), (9, .row .i64 3 25)], reb := [(9, 0)], inv := levInv, mu := fun env => (gI env 6 - gI env 24).toNat }
def lLive : LoopS U :=
  { fn := 142, rid := 2, nv := 5, tm := [(5, .int .i64 (.var 22)), (6, .int .i64 (.var 23))], hp := [(2, .cells [.slice 10 (.var 24) (.var 26)] 79), (10, .row .i64 3 25)], reb := [(10, 0)], inv := livInv, mu := fun env => (gI env 6 - gI env 23).toNat }
def lQLevel : LoopS U :=
  { fn := 93, rid := 5, nv := 5, tm := [(8, .int .i64 (.var 20)), (7, .slice 2 (.var 21) (.var 23))], hp := [(0, .abs 24), (2, .row .i64 3 22)], reb := [(2, 0)], inv := qlevInv, mu := fun env => (gI env 6 - gI env 21).toNat }
def lQLive : LoopS U :=
  { fn := 94, rid := 4, nv := 5, tm := [(7, .int .i64 (.var 18)), (5, .slice 3 (.var 19) (.var 21))], hp := [(0, .abs 22), (3, .row .i64 3 20)], reb := [(3, 0)], inv := qlivInv, mu := fun env => (gI env 16 - gI env 18).toNat }
end Go.Proofs.YtbmbiiiacajolaaGreat
/- The ways of the runs, as a program of ours printed them. -/
namespace Go.Proofs.YtbmbiiiacajolaaGreat
set_option linter.unusedVariables false
set_option linter.unusedSimpArgs false
set_option linter.unusedSectionVars false
open Go
set_option maxRecDepth 100000

def hsMemAt : List (Nat × Nat × List Nat) := []
def tMemAt : Tree := (.br (.cmp .lss (.var 3) (.lit 0))
 (.ret [.ex (.lit 0)])
 (.need (.cmp .leq (.lit 0) (.var 1)) (.br (.cmp .geq (.var 3) (.var 1))
 (.ret [.ex (.lit 0)])
 (.need (.cmp .leq (.lit 0) (.var 3)) (.need (.cmp .lss (.var 3) (.var 1)) (.need (.cmp .lss (.var 3) (.len 0)) (.need (.cmp .leq (.lit 0) (.var 3)) (.need (.cmp .lss (.var 3) (.len 0)) (.ret [.ex (.nth 0 (.var 3))])))))))))
theorem rMemAt : runCtr { (cx Tryz.prog []) with hints := hsMemAt } 20 cMemAt [] [] = tMemAt := by kernel_rfl

def hsNextP : List (Nat × Nat × List Nat) := []
def tNextP : Tree := (.br (.cmp .lss (.var 14) (.lit 0))
 (.ret [.ex (.lit (-1))])
 (.br (.cmp .geq (.var 14) (.lit 4))
 (.ret [.ex (.lit (-1))])
 (.call 0 [.ex (.var 0), .ex (.var 1), .ex (.var 2), .ex (.var 3), .ex (.var 4), .ex (.var 5), .ex (.var 6), .ex (.var 7), .ex (.var 8), .ex (.var 9), .ex (.var 10), .ex (.var 11), .ex (.var 12), .ex (.var 13), .ex (.bin .add .i64 (.lit 4) (.var 14))] (.ret [.ex (.var 15)]))))
theorem rNextP : runCtr { (cxYb0 Tryz.prog) with hints := hsNextP } 20 cNextP [] [] = tNextP := by kernel_rfl

def hsNextQ : List (Nat × Nat × List Nat) := []
def tNextQ : Tree := (.br (.cmp .lss (.var 14) (.lit 0))
 (.ret [.ex (.lit (-1))])
 (.br (.cmp .geq (.var 14) (.lit 4))
 (.ret [.ex (.lit (-1))])
 (.call 0 [.ex (.var 0), .ex (.var 1), .ex (.var 2), .ex (.var 3), .ex (.var 4), .ex (.var 5), .ex (.var 6), .ex (.var 7), .ex (.var 8), .ex (.var 9), .ex (.var 10), .ex (.var 11), .ex (.var 12), .ex (.var 13), .ex (.bin .add .i64 (.lit 4) (.var 14))] (.ret [.ex (.var 15)]))))
theorem rNextQ : runCtr { (cxYb1 Tryz.prog) with hints := hsNextQ } 20 cNextQ [] [] = tNextQ := by kernel_rfl

def hsLevel : List (Nat × Nat × List Nat) := []
def tLevelL0 : Tree := (.br (.cmp .geq (.var 23) (.lit 0))
 (.br (.cmp .lss (.var 24) (.var 6))
 (.need (.cmp .leq (.lit 0) (.var 24)) (.need (.cmp .leq (.var 24) (.var 26)) (.need (.cmp .leq (.var 26) (.len 25)) (.need (.cmp .leq (.len 25) (.var 26)) (.need (.cmp .leq (.var 24) (.lit 1000000)) (.app (some 25) (.var 24) (.var 23) (.and (.call 2 [.ex (.var 1), .ex (.var 2), .ex (.var 3), .ex (.var 4), .ex (.var 5), .ex (.var 6), .ex (.var 7), .ex (.var 8), .ex (.var 9), .ex (.var 10), .ex (.var 11), .ex (.var 12), .ex (.var 13), .ex (.var 23), .ex (.var 14)] (.and (.call 4 [.var 17, .ex (.var 18), .ex (.var 18), .ex (.var 29)] (.and (.call 1 [.ex (.var 1), .ex (.var 2), .ex (.var 3), .ex (.var 4), .ex (.var 5), .ex (.var 6), .ex (.var 7), .ex (.var 8), .ex (.var 9), .ex (.var 10), .ex (.var 11), .ex (.var 12), .ex (.var 13), .ex (.var 30)] (.back 0 23 [.ex (.var 31), .ex (.bin .add .i64 (.var 24) (.lit 1)), .var 27, .ex (.var 28)])) .ok)) .ok)) .ok)))))))
 (.ret [.var 16, .var 25, .ex (.var 24), .ex (.var 26)]))
 (.ret [.var 16, .var 25, .ex (.var 24), .ex (.var 26)]))
def tLevel : Tree := (.call 2 [.ex (.var 1), .ex (.var 2), .ex (.var 3), .ex (.var 4), .ex (.var 5), .ex (.var 6), .ex (.var 7), .ex (.var 8), .ex (.var 9), .ex (.var 10), .ex (.var 11), .ex (.var 12), .ex (.var 13), .ex (.lit (-1)), .ex (.var 14)] (.br (.cmp .lss (.var 15) (.lit 0))
 (.ext (.lst []) (.ret [.var 0, .var 16, .ex (.lit 0), .ex (.lit 0)]))
 (.and (.call 0 [.var 0] (.and (.rng (.and (.call 2 [.ex (.var 1), .ex (.var 2), .ex (.var 3), .ex (.var 4), .ex (.var 5), .ex (.var 6), .ex (.var 7), .ex (.var 8), .ex (.var 9), .ex (.var 10), .ex (.var 11), .ex (.var 12), .ex (.var 13), .ex (.lit (-1)), .ex (.var 14)] (.and (.call 4 [.var 17, .ex (.var 18), .ex (.var 18), .ex (.var 20)] (.and (.call 1 [.ex (.var 1), .ex (.var 2), .ex (.var 3), .ex (.var 4), .ex (.var 5), .ex (.var 6), .ex (.var 7), .ex (.var 8), .ex (.var 9), .ex (.var 10), .ex (.var 11), .ex (.var 12), .ex (.var 13), .ex (.var 21)] (.ext (.lst []) (.loop 0 23 [.ex (.var 22), .ex (.lit 0), .var 23, .ex (.lit 0)] tLevelL0))) .ok)) .ok)) .ok)) .ok)) .ok)))
theorem rLevel : runCtr { (cxYb Tryz.prog [lLevel]) with hints := hsLevel } 20 cLevel [] [] = tLevel := by kernel_rfl

def hsLive : List (Nat × Nat × List Nat) := []
def tLiveL0 : Tree := (.br (.cmp .geq (.var 22) (.lit 0))
 (.br (.cmp .lss (.var 23) (.var 6))
 (.and (.call 2 [.ex (.var 1), .ex (.var 2), .ex (.var 3), .ex (.var 4), .ex (.var 5), .ex (.var 6), .ex (.var 7), .ex (.var 8), .ex (.var 9), .ex (.var 10), .ex (.var 11), .ex (.var 12), .ex (.var 13), .ex (.var 22), .ex (.lit 0)] (.and (.call 4 [.var 16, .ex (.var 17), .ex (.var 17), .ex (.var 27)] (.and (.br (.cmp .eql (.bin .shr .u64 (.var 28) (.lit 63)) (.lit 1))
 (.and (.call 2 [.ex (.var 1), .ex (.var 2), .ex (.var 3), .ex (.var 4), .ex (.var 5), .ex (.var 6), .ex (.var 7), .ex (.var 8), .ex (.var 9), .ex (.var 10), .ex (.var 11), .ex (.var 12), .ex (.var 13), .ex (.var 22), .ex (.lit 0)] (.and (.call 4 [.var 16, .ex (.var 17), .ex (.var 17), .ex (.var 29)] (.and (.call 1 [.ex (.var 1), .ex (.var 2), .ex (.var 3), .ex (.var 4), .ex (.var 5), .ex (.var 6), .ex (.var 7), .ex (.var 8), .ex (.var 9), .ex (.var 10), .ex (.var 11), .ex (.var 12), .ex (.var 13), .ex (.var 30)] (.back 0 22 [.ex (.var 31), .ex (.bin .add .i64 (.var 23) (.lit 1)), .ex (.var 24), .var 25, .ex (.var 26)])) .ok)) .ok)) .ok)
 (.need (.cmp .leq (.lit 0) (.var 24)) (.need (.cmp .leq (.var 24) (.var 26)) (.need (.cmp .leq (.var 26) (.len 25)) (.need (.cmp .leq (.len 25) (.var 26)) (.need (.cmp .leq (.var 24) (.lit 1000000)) (.app (some 25) (.var 24) (.var 22) (.and (.call 2 [.ex (.var 1), .ex (.var 2), .ex (.var 3), .ex (.var 4), .ex (.var 5), .ex (.var 6), .ex (.var 7), .ex (.var 8), .ex (.var 9), .ex (.var 10), .ex (.var 11), .ex (.var 12), .ex (.var 13), .ex (.var 22), .ex (.lit 0)] (.and (.call 4 [.var 16, .ex (.var 17), .ex (.var 17), .ex (.var 31)] (.and (.call 1 [.ex (.var 1), .ex (.var 2), .ex (.var 3), .ex (.var 4), .ex (.var 5), .ex (.var 6), .ex (.var 7), .ex (.var 8), .ex (.var 9), .ex (.var 10), .ex (.var 11), .ex (.var 12), .ex (.var 13), .ex (.var 32)] (.back 0 22 [.ex (.var 33), .ex (.bin .add .i64 (.var 23) (.lit 1)), .ex (.bin .add .i64 (.var 24) (.lit 1)), .var 29, .ex (.var 30)])) .ok)) .ok)) .ok)))))))) .ok)) .ok)) .ok)
 (.ret [.var 15, .var 25, .ex (.var 24), .ex (.var 26)]))
 (.ret [.var 15, .var 25, .ex (.var 24), .ex (.var 26)]))
def tLive : Tree := (.call 3 [.ex (.var 1), .ex (.var 2), .ex (.var 3), .ex (.var 4), .ex (.var 5), .ex (.var 6), .ex (.var 7), .ex (.var 8), .ex (.var 9), .ex (.var 10), .ex (.var 11), .ex (.var 12), .ex (.var 13)] (.br (.var 14)
 (.call 0 [.var 0] (.rng (.and (.call 2 [.ex (.var 1), .ex (.var 2), .ex (.var 3), .ex (.var 4), .ex (.var 5), .ex (.var 6), .ex (.var 7), .ex (.var 8), .ex (.var 9), .ex (.var 10), .ex (.var 11), .ex (.var 12), .ex (.var 13), .ex (.lit (-1)), .ex (.lit 0)] (.and (.call 4 [.var 16, .ex (.var 17), .ex (.var 17), .ex (.var 19)] (.and (.call 1 [.ex (.var 1), .ex (.var 2), .ex (.var 3), .ex (.var 4), .ex (.var 5), .ex (.var 6), .ex (.var 7), .ex (.var 8), .ex (.var 9), .ex (.var 10), .ex (.var 11), .ex (.var 12), .ex (.var 13), .ex (.var 20)] (.ext (.lst []) (.loop 0 22 [.ex (.var 21), .ex (.lit 0), .ex (.lit 0), .var 22, .ex (.lit 0)] tLiveL0))) .ok)) .ok)) .ok)))
 (.ext (.lst []) (.ret [.var 0, .var 15, .ex (.lit 0), .ex (.lit 0)]))))
theorem rLive : runCtr { (cxYb Tryz.prog [lLive]) with hints := hsLive } 20 cLive [] [] = tLive := by kernel_rfl

def hsQLevel : List (Nat × Nat × List Nat) := []
def tQLevelL0 : Tree := (.br (.cmp .geq (.var 20) (.lit 0))
 (.need (.cmp .leq (.lit 0) (.var 21)) (.br (.cmp .lss (.var 21) (.var 6))
 (.need (.cmp .leq (.lit 0) (.var 21)) (.need (.cmp .leq (.var 21) (.var 23)) (.need (.cmp .leq (.var 23) (.len 22)) (.need (.cmp .leq (.len 22) (.var 23)) (.need (.cmp .leq (.var 21) (.lit 1000000)) (.app (some 22) (.var 21) (.var 20) (.and (.call 2 [.ex (.var 1), .ex (.var 2), .ex (.var 3), .ex (.var 4), .ex (.var 5), .ex (.var 6), .ex (.var 7), .ex (.var 8), .ex (.var 9), .ex (.var 10), .ex (.var 11), .ex (.var 12), .ex (.var 13), .ex (.var 20), .ex (.var 14)] (.and (.call 0 [.var 24, .ex (.var 27)] (.and (.call 1 [.ex (.var 1), .ex (.var 2), .ex (.var 3), .ex (.var 4), .ex (.var 5), .ex (.var 6), .ex (.var 7), .ex (.var 8), .ex (.var 9), .ex (.var 10), .ex (.var 11), .ex (.var 12), .ex (.var 13), .ex (.var 29)] (.back 0 20 [.ex (.var 30), .ex (.bin .add .i64 (.var 21) (.lit 1)), .var 25, .ex (.var 26), .var 28])) .ok)) .ok)) .ok)))))))
 (.ret [.var 24, .var 22, .ex (.var 21), .ex (.var 23)])))
 (.ret [.var 24, .var 22, .ex (.var 21), .ex (.var 23)]))
def tQLevel : Tree := (.call 2 [.ex (.var 1), .ex (.var 2), .ex (.var 3), .ex (.var 4), .ex (.var 5), .ex (.var 6), .ex (.var 7), .ex (.var 8), .ex (.var 9), .ex (.var 10), .ex (.var 11), .ex (.var 12), .ex (.var 13), .ex (.lit (-1)), .ex (.var 14)] (.br (.cmp .lss (.var 15) (.lit 0))
 (.ext (.lst []) (.ret [.var 0, .var 16, .ex (.lit 0), .ex (.lit 0)]))
 (.and (.call 2 [.ex (.var 1), .ex (.var 2), .ex (.var 3), .ex (.var 4), .ex (.var 5), .ex (.var 6), .ex (.var 7), .ex (.var 8), .ex (.var 9), .ex (.var 10), .ex (.var 11), .ex (.var 12), .ex (.var 13), .ex (.lit (-1)), .ex (.var 14)] (.and (.call 0 [.var 0, .ex (.var 16)] (.and (.call 1 [.ex (.var 1), .ex (.var 2), .ex (.var 3), .ex (.var 4), .ex (.var 5), .ex (.var 6), .ex (.var 7), .ex (.var 8), .ex (.var 9), .ex (.var 10), .ex (.var 11), .ex (.var 12), .ex (.var 13), .ex (.var 18)] (.ext (.lst []) (.loop 0 20 [.ex (.var 19), .ex (.lit 0), .var 20, .ex (.lit 0), .var 17] tQLevelL0))) .ok)) .ok)) .ok)))
theorem rQLevel : runCtr { (cxYbq Tryz.prog [lQLevel]) with hints := hsQLevel } 20 cQLevel [] [] = tQLevel := by kernel_rfl

def hsQLive : List (Nat × Nat × List Nat) := []
def tQLiveL0 : Tree := (.need (.cmp .leq (.lit 0) (.var 16)) (.br (.cmp .lss (.var 18) (.var 16))
 (.need (.cmp .leq (.lit 0) (.var 18)) (.need (.cmp .lss (.var 18) (.var 16)) (.need (.cmp .lss (.var 18) (.len 15)) (.need (.cmp .leq (.lit 0) (.var 18)) (.need (.cmp .lss (.var 18) (.len 15)) (.and (.call 2 [.ex (.var 1), .ex (.var 2), .ex (.var 3), .ex (.var 4), .ex (.var 5), .ex (.var 6), .ex (.var 7), .ex (.var 8), .ex (.var 9), .ex (.var 10), .ex (.var 11), .ex (.var 12), .ex (.var 13), .ex (.nth 15 (.var 18)), .ex (.lit 0)] (.and (.call 0 [.var 22, .ex (.var 23)] (.br (.cmp .eql (.bin .shr .u64 (.var 25) (.lit 63)) (.lit 0))
 (.need (.cmp .leq (.lit 0) (.var 18)) (.need (.cmp .lss (.var 18) (.var 16)) (.need (.cmp .lss (.var 18) (.len 15)) (.need (.cmp .leq (.lit 0) (.var 18)) (.need (.cmp .lss (.var 18) (.len 15)) (.need (.cmp .leq (.lit 0) (.var 19)) (.need (.cmp .leq (.var 19) (.var 21)) (.need (.cmp .leq (.var 21) (.len 20)) (.need (.cmp .leq (.len 20) (.var 21)) (.need (.cmp .leq (.var 19) (.lit 1000000)) (.app (some 20) (.var 19) (.nth 15 (.var 18)) (.back 0 18 [.ex (.bin .add .i64 (.var 18) (.lit 1)), .ex (.bin .add .i64 (.var 19) (.lit 1)), .var 26, .ex (.var 27), .var 24]))))))))))))
 (.back 0 18 [.ex (.bin .add .i64 (.var 18) (.lit 1)), .ex (.var 19), .var 20, .ex (.var 21), .var 24]))) .ok)) .ok))))))
 (.ret [.var 22, .var 20, .ex (.var 19), .ex (.var 21)])))
def tQLive : Tree := (.callm 3 [.var 0, .ex (.var 1), .ex (.var 2), .ex (.var 3), .ex (.var 4), .ex (.var 5), .ex (.var 6), .ex (.var 7), .ex (.var 8), .ex (.var 9), .ex (.var 10), .ex (.var 11), .ex (.var 12), .ex (.var 13), .ex (.lit 0)] (.ext (.lst []) (.loop 0 18 [.ex (.lit 0), .ex (.lit 0), .var 18, .ex (.lit 0), .var 14] tQLiveL0)))
theorem rQLive : runCtr { (cxYbl Tryz.prog [lQLive]) with hints := hsQLive } 20 cQLive [] [] = tQLive := by kernel_rfl

end Go.Proofs.YtbmbiiiacajolaaGreat
/- Levels of a tower: the contracts hold (printed by gen_yb.py). -/
namespace Go.Proofs.YtbmbiiiacajolaaGreat
set_option linter.unusedVariables false
set_option linter.unusedSimpArgs false
set_option linter.unusedSectionVars false
open Go Go.RowKit

theorem idxW_hi (s w : Int) : idxW s w ≤ 65534 := by unfold idxW; split <;> omega
theorem out_memAt (M : MemSt) (c k : Int) : cMemAt.out [.l M.W, .i M.W.length, .i c, .i k] = [.i (M.at0 k)] := rfl
theorem out_nextP (a0 a1 a2 a3 a4 a5 a6 a7 a8 a9 a10 a11 a12 i l : Int) : cNextP.out [.i a0, .i a1, .i a2, .i a3, .i a4, .i a5, .i a6, .i a7, .i a8, .i a9, .i a10, .i a11, .i a12, .i i, .i l] = [.i (nextT a0 a1 a2 a5 i l)] := rfl
theorem out_nextQ (a0 a1 a2 a3 a4 a5 a6 a7 a8 a9 a10 a11 a12 i l : Int) : cNextQ.out [.i a0, .i a1, .i a2, .i a3, .i a4, .i a5, .i a6, .i a7, .i a8, .i a9, .i a10, .i a11, .i a12, .i i, .i l] = [.i (nextT a0 a1 a2 a5 i l)] := rfl
theorem lev_step {M : MemSt} {n h a s l i : Int} {m k : Nat} (hi : 0 ≤ i) (hk : k < m) : levelK M n h a s l (m - k) i = i :: levelK M n h a s l (m - (k + 1)) (idxW s (M.at0 (nextT n h a s i l))) := by
  rw [show m - k = (m - (k + 1)) + 1 by omega, levelK, if_neg (by omega)]
theorem lev_end {M : MemSt} {n h a s l i : Int} {m : Nat} (hi : i < 0 ∨ m = 0) : levelK M n h a s l m i = [] := by
  rcases hi with hi | hi
  · cases m with
    | zero => rfl
    | succ m => rw [levelK, if_pos hi]
  · subst hi; rfl
theorem lev_len {M : MemSt} {n h a s l : Int} : ∀ (m : Nat) (i : Int), (levelK M n h a s l m i).length ≤ m
  | 0, _ => Nat.le_refl 0
  | m + 1, i => by
    rw [levelK]
    split
    · exact Nat.zero_le _
    · exact Nat.succ_le_succ (lev_len m _)
theorem lev_next {M : MemSt} {n h a s l i k : Int} {xs r V : List Int} (h1 : 0 ≤ k) (h4 : k.toNat ≤ xs.length) (h5 : xs.take k.toNat ++ levelK M n h a s l (s.toNat - k.toNat) i = V) (hi : 0 ≤ i) (hk : k < s) :
    (xs.take k.toNat ++ i :: r).take (k + 1).toNat ++ levelK M n h a s l (s.toNat - (k + 1).toNat) (idxW s (M.at0 (nextT n h a s i l))) = V := by
  rw [lev_step hi (by omega)] at h5
  rw [toNat_succ h1, take_app rfl h4, ← h5, List.append_assoc]
  rfl
theorem liv_next0 {M : MemSt} {n h a s i k : Int} {V W : List Int} (h1 : 0 ≤ k) (h5 : W ++ (levelK M n h a s 0 (s.toNat - k.toNat) i).filter (goesT M n h a s) = V) (hi : 0 ≤ i) (hk : k < s) (hg : goesT M n h a s i = false) :
    W ++ (levelK M n h a s 0 (s.toNat - (k + 1).toNat) (idxW s (M.at0 (nextT n h a s i 0)))).filter (goesT M n h a s) = V := by
  rw [lev_step hi (by omega), List.filter_cons_of_neg (by rw [hg]; decide)] at h5
  rw [toNat_succ h1, h5]
theorem liv_next1 {M : MemSt} {n h a s i k m : Int} {xs r V : List Int} (h1 : 0 ≤ k) (h2 : 0 ≤ m) (h4 : m.toNat ≤ xs.length) (h5 : xs.take m.toNat ++ (levelK M n h a s 0 (s.toNat - k.toNat) i).filter (goesT M n h a s) = V) (hi : 0 ≤ i) (hk : k < s) (hg : goesT M n h a s i = true) :
    (xs.take m.toNat ++ i :: r).take (m + 1).toNat ++ (levelK M n h a s 0 (s.toNat - (k + 1).toNat) (idxW s (M.at0 (nextT n h a s i 0)))).filter (goesT M n h a s) = V := by
  rw [lev_step hi (by omega), List.filter_cons_of_pos hg] at h5
  rw [toNat_succ h2, take_app rfl h4, toNat_succ h1, ← h5, List.append_assoc]
  rfl
theorem drop_step {L : List Int} {k : Nat} (h : k < L.length) : L.drop k = L[k]?.getD 0 :: L.drop (k + 1) := by
  rw [List.drop_eq_getElem_cons h, List.getElem?_eq_getElem h]
  rfl
theorem qliv_next0 {g : Int → Bool} {L V W : List Int} {k x : Int} (h1 : 0 ≤ k) (hk : k < L.length) (h5 : W ++ (L.drop k.toNat).filter g = V) (hx : x = L[k.toNat]?.getD 0) (hg : g x = false) : W ++ (L.drop (k + 1).toNat).filter g = V := by
  subst hx
  rw [drop_step (by omega), List.filter_cons_of_neg (by rw [hg]; decide)] at h5
  rw [toNat_succ h1, h5]
theorem qliv_next1 {g : Int → Bool} {L V xs r : List Int} {k m x : Int} (h1 : 0 ≤ k) (h2 : 0 ≤ m) (h4 : m.toNat ≤ xs.length) (hk : k < L.length) (h5 : xs.take m.toNat ++ (L.drop k.toNat).filter g = V) (hx : x = L[k.toNat]?.getD 0) (hg : g x = true) : (xs.take m.toNat ++ x :: r).take (m + 1).toNat ++ (L.drop (k + 1).toNat).filter g = V := by
  subst hx
  rw [drop_step (by omega), List.filter_cons_of_pos hg] at h5
  rw [toNat_succ h1, toNat_succ h2, take_app rfl h4, ← h5, List.append_assoc]
  rfl
theorem next_head {n h a s : Int} (e : okT n h a s = true) : 0 ≤ nextT n h a s (-1) 0 := by
  have g := okT_a e
  unfold nextT atT
  rw [if_neg (by omega), if_pos ⟨e, by omega, by omega, by omega, by omega, by omega⟩, if_pos (by omega)]
  omega
theorem levelT_pos {M : MemSt} {n h a s l : Int} (e : 0 ≤ nextT n h a s (-1) l) : levelT M n h a s l = levelK M n h a s l s.toNat (idxW s (M.at0 (nextT n h a s (-1) l))) := by unfold levelT; rw [if_neg (by omega)]
theorem levelT_neg {M : MemSt} {n h a s l : Int} (e : nextT n h a s (-1) l < 0) : levelT M n h a s l = [] := by unfold levelT; rw [if_pos e]
theorem levelT_len {M : MemSt} {n h a s l : Int} (e : okT n h a s = true) : (levelT M n h a s l).length ≤ 128 := by
  have g := okT_a e
  unfold levelT
  split
  · exact Nat.zero_le _
  · exact Nat.le_trans (lev_len _ _) (by omega)
theorem bit63 {w : Int} (h : isW w) : w / 9223372036854775808 = 0 ∨ w / 9223372036854775808 = 1 := by obtain ⟨h0, h1⟩ := h; omega
theorem shr63 (w : Int) : w.fdiv (2 ^ min (Int.toNat 63) IntKind.u64.bits) = w / 9223372036854775808 := shrX w 63 (by decide)
theorem goes_t {M : MemSt} {n h a s i : Int} (e : M.at0 (nextT n h a s i 0) / 9223372036854775808 = 0) : goesT M n h a s i = true := decide_eq_true e
theorem goes_f {M : MemSt} {n h a s i : Int} (e : M.at0 (nextT n h a s i 0) / 9223372036854775808 = 1) : goesT M n h a s i = false := decide_eq_false (by omega)
theorem row_end {xs V : List Int} {k c : Int} (h1 : 0 ≤ k) (h3 : c = xs.length) (h4 : k ≤ c) (h5 : xs.take k.toNat = V) (x : EV U) : ∃ cc, [x, .l xs, .i k, .i c] = rowOut x V cc := by
  obtain ⟨rr, hr⟩ := split_at h5
  refine ⟨rr, ?_⟩
  have hlen : V.length = k.toNat := by rw [← h5, List.length_take]; omega
  have hx : xs.length = k.toNat + rr.length := by rw [hr, List.length_append, hlen]
  unfold rowOut
  rw [← hr, hlen, ← hx, h3, show ((k.toNat : Nat) : Int) = k by omega]
theorem vNextP (P : Program) (hs : List (Nat × Nat × List Nat)) : ∀ ins, ins.length = cNextP.nin → cNextP.pre ins → tNextP.sat { cxYb0 P with hints := hs } (ctrR cNextP) ins := by
  rintro ins _ ⟨a0, a1, a2, a3, a4, a5, a6, a7, a8, a9, a10, a11, a12, i, l, rfl⟩
  have e0 : ∀ x : Int, 0 ≤ x → x < 4 → IntKind.i64.wrap (4 + x) = 4 + x := fun x h0 h1 => wrap_small (by omega) (by omega)
  unfold tNextP
  repeat' (first
    | (first
      | (with_reducible refine st_need ?_ ?_
         focus (simp only [dn, reduceCtorEq, e0] <;> first | omega | assumption))
      | (with_reducible refine st_and ?_ ?_)
      | (with_reducible exact st_ok)
      | (with_reducible refine st_br (fun hc => ?_) (fun hc => ?_) <;> (simp only [dn, reduceCtorEq, e0] at hc) <;> (try (exfalso; first | contradiction | omega)))
      | (refine st_call (by rfl) (by simp only [dn, reduceCtorEq, e0] <;> rfl) ?_ (by simp only [out_atP, out_atQ] <;> rfl) (by simp only [dn] <;> rfl) ?_
         focus (first | exact ⟨_, _, _, _, _, _, _, _, _, _, _, _, _, _, _, rfl⟩)))
    | (refine st_ret (by simp only [dn, reduceCtorEq, e0] <;> rfl) ?_
       show _ = [EV.i (nextT a0 a1 a2 a5 i l)]
       unfold nextT
       first
         | (rw [if_pos (by omega)]; done)
         | (rw [if_neg (by omega), e0 l (by omega) (by omega)]; done))
    | fail "no step")
theorem hNextP : cNextP.Holds objs Tryz.prog := runCtr_holds (X := { cxYb0 Tryz.prog with hints := hsNextP }) objsOk mixed (by
  intro ci c h
  match ci, h with
  | 0, h => cases h; exact hAt
  | n + 1, h => cases h) (callable _ Tryz.func46 (by kernel_rfl) (by kernel_rfl)) (by rintro ins _ ⟨_, _, _, _, _, _, _, _, _, _, _, _, _, _, _, rfl⟩; rfl) (by rw [rNextP]; exact vNextP _ _)
theorem vNextQ (P : Program) (hs : List (Nat × Nat × List Nat)) : ∀ ins, ins.length = cNextQ.nin → cNextQ.pre ins → tNextQ.sat { cxYb1 P with hints := hs } (ctrR cNextQ) ins := by
  rintro ins _ ⟨a0, a1, a2, a3, a4, a5, a6, a7, a8, a9, a10, a11, a12, i, l, rfl⟩
  have e0 : ∀ x : Int, 0 ≤ x → x < 4 → IntKind.i64.wrap (4 + x) = 4 + x := fun x h0 h1 => wrap_small (by omega) (by omega)
  unfold tNextQ
  repeat' (first
    | (first
      | (with_reducible refine st_need ?_ ?_
         focus (simp only [dn, reduceCtorEq, e0] <;> first | omega | assumption))
      | (with_reducible refine st_and ?_ ?_)
      | (with_reducible exact st_ok)
      | (with_reducible refine st_br (fun hc => ?_) (fun hc => ?_) <;> (simp only [dn, reduceCtorEq, e0] at hc) <;> (try (exfalso; first | contradiction | omega)))
      | (refine st_call (by rfl) (by simp only [dn, reduceCtorEq, e0] <;> rfl) ?_ (by simp only [out_atP, out_atQ] <;> rfl) (by simp only [dn] <;> rfl) ?_
         focus (first | exact ⟨_, _, _, _, _, _, _, _, _, _, _, _, _, _, _, rfl⟩)))
    | (refine st_ret (by simp only [dn, reduceCtorEq, e0] <;> rfl) ?_
       show _ = [EV.i (nextT a0 a1 a2 a5 i l)]
       unfold nextT
       first
         | (rw [if_pos (by omega)]; done)
         | (rw [if_neg (by omega), e0 l (by omega) (by omega)]; done))
    | fail "no step")
theorem hNextQ : cNextQ.Holds objs Tryz.prog := runCtr_holds (X := { cxYb1 Tryz.prog with hints := hsNextQ }) objsOk mixed (by
  intro ci c h
  match ci, h with
  | 0, h => cases h; exact hRAt
  | n + 1, h => cases h) (callable _ Tryz.func62 (by kernel_rfl) (by kernel_rfl)) (by rintro ins _ ⟨_, _, _, _, _, _, _, _, _, _, _, _, _, _, _, rfl⟩; rfl) (by rw [rNextQ]; exact vNextQ _ _)
set_option maxHeartbeats 1000000 in
theorem vMemAt (P : Program) (hs : List (Nat × Nat × List Nat)) : ∀ ins, ins.length = cMemAt.nin → cMemAt.pre ins → tMemAt.sat { cx P [] with hints := hs } (ctrR cMemAt) ins := by
  rintro ins _ ⟨W, c, k, rfl, h1⟩
  unfold tMemAt
  repeat' (first
    | (first
      | (with_reducible refine st_need ?_ ?_
         focus (simp only [dn, reduceCtorEq, h1] <;> first | omega | assumption))
      | (with_reducible refine st_and ?_ ?_)
      | (with_reducible exact st_ok)
      | (with_reducible refine st_br (fun hc => ?_) (fun hc => ?_) <;> (simp only [dn, reduceCtorEq, h1] at hc) <;> (try (exfalso; first | contradiction | omega)))
      | (refine st_call (by rfl) (by simp only [dn, reduceCtorEq, h1] <;> rfl) ?_ (by skip <;> rfl) (by simp only [dn] <;> rfl) ?_
         focus (first | exact ⟨_, rfl⟩)))
    | (refine st_ret (by simp only [dn, reduceCtorEq, h1] <;> rfl) ?_
       show _ = [EV.i (if 0 ≤ k ∧ k < W.length then W[k.toNat]?.getD 0 else 0)]
       first
         | (rw [if_neg (by omega)]; done)
         | (rw [if_pos (by omega)]; done))
    | fail "no step")
theorem hMemAt : cMemAt.Holds objs Tryz.prog := runCtr_holds (X := { cx Tryz.prog [] with hints := hsMemAt }) objsOk mixed noCts (callable _ Tryz.func124 (by kernel_rfl) (by kernel_rfl)) (by rintro ins _ ⟨_, _, _, rfl, _⟩; rfl) (by rw [rMemAt]; exact vMemAt _ _)
theorem hctsYb : ∀ (ci : Nat) (c : Ctr U), ctsYb[ci]? = some c → c.Holds objs Tryz.prog := by
  intro ci c h
  match ci, h with
  | 0, h => cases h; exact hWords
  | 1, h => cases h; exact hIdxP
  | 2, h => cases h; exact hNextP
  | 3, h => cases h; exact hSnd15
  | 4, h => cases h; exact hMemAt
  | n + 5, h => cases h
theorem hctsYq : ∀ (ci : Nat) (c : Ctr U), ctsYq[ci]? = some c → c.Holds objs Tryz.prog := by
  intro ci c h
  match ci, h with
  | 0, h => cases h; exact hQAt
  | 1, h => cases h; exact hIdxQ
  | 2, h => cases h; exact hNextQ
  | n + 3, h => cases h
set_option maxHeartbeats 4000000 in
theorem vLevel (P : Program) (hs : List (Nat × Nat × List Nat)) : ∀ ins, ins.length = cLevel.nin → cLevel.pre ins → tLevel.sat { cxYb P [lLevel] with hints := hs } (ctrR cLevel) ins := by
  have hb : ∀ env, levInv env → tLevelL0.sat { cxYb P [lLevel] with hints := hs } (ctrR cLevel) env := by
    rintro env ⟨M, a0, a1, a2, a3, a4, a5, a6, a7, a8, a9, a10, a11, a12, l, x15, x19, x20, x21, x22, i, k, xs, c, rfl, hM, ht, h1, h2, h3, h4, h5, h6⟩
    have ha := okT_a ht

    unfold tLevelL0
    repeat' (first
      | (first
        | (with_reducible refine st_need ?_ ?_
           focus (simp only [dn, reduceCtorEq, hM] <;> first | omega | assumption))
        | (with_reducible refine st_and ?_ ?_)
        | (with_reducible exact st_ok)
        | (with_reducible refine st_br (fun hc => ?_) (fun hc => ?_) <;> (simp only [dn, reduceCtorEq, hM] at hc) <;> (try (exfalso; first | contradiction | omega)))
        | (refine st_call (by rfl) (by simp only [dn, reduceCtorEq, hM] <;> rfl) ?_ (by simp only [out_words, out_memAt, out_nextP, out_idxP, out_Snd15] <;> rfl) (by simp only [dn] <;> rfl) ?_
           focus (first | exact ⟨_, rfl⟩ | exact ⟨_, _, _, rfl, hM.1⟩ | exact ⟨_, _, _, _, _, _, _, _, _, _, _, _, _, _, rfl, fine_at0 hM _⟩ | exact ⟨_, _, _, _, _, _, _, _, _, _, _, _, _, _, _, rfl⟩ | exact ⟨_, _, _, _, _, _, _, _, _, _, _, _, _, rfl⟩)))
      | (refine st_app (by rfl) (by simp only [dn, reduceCtorEq, hM] <;> rfl) (by simp only [dn, reduceCtorEq, hM] <;> rfl) (fun rr env' he => ?_)
         simp only [List.cons_append, List.nil_append] at he
         subst he)
      | (refine st_rng (fun LL env' he => ?_)
         simp only [List.cons_append, List.nil_append] at he
         subst he)
      | (refine st_lst (by simp only [List.map_cons, List.map_nil, List.cons_append, List.nil_append] <;> rfl) ?_)
      | (refine st_back (by rfl) (by simp only [dn, reduceCtorEq, hM] <;> rfl) (by simp only [dn] <;> rfl) (by rfl) ?_ ?_
         focus (rw [wrap_small (n := k + 1) (by omega) (by omega)]
                refine ⟨M, a0, a1, a2, a3, a4, a5, a6, a7, a8, a9, a10, a11, a12, l, _, _, _, _, _, _, _, _, _, rfl, hM, ht, by omega, by omega, by simp only [List.length_append, List.length_cons, List.length_take]; omega, by omega, lev_next h1 (by omega) h5 (by omega) (by omega), idxW_hi _ _⟩)
         focus (rw [wrap_small (n := k + 1) (by omega) (by omega)]; show (a5 - (k + 1)).toNat < (a5 - k).toNat; omega))
      | (refine st_ret (by simp only [dn, reduceCtorEq, hM] <;> rfl) ?_
         rw [lev_end (by omega), List.append_nil] at h5
         exact row_end h1 h3 h4 h5 _)
      | fail "no step")
  rintro ins _ ⟨M, a0, a1, a2, a3, a4, a5, a6, a7, a8, a9, a10, a11, a12, l, rfl, hM, ht⟩
  have ha := okT_a ht
  unfold tLevel
  repeat' (first
    | (first
      | (with_reducible refine st_need ?_ ?_
         focus (simp only [dn, reduceCtorEq, hM] <;> first | omega | assumption))
      | (with_reducible refine st_and ?_ ?_)
      | (with_reducible exact st_ok)
      | (with_reducible refine st_br (fun hc => ?_) (fun hc => ?_) <;> (simp only [dn, reduceCtorEq, hM] at hc) <;> (try (exfalso; first | contradiction | omega)))
      | (refine st_call (by rfl) (by simp only [dn, reduceCtorEq, hM] <;> rfl) ?_ (by simp only [out_words, out_memAt, out_nextP, out_idxP, out_Snd15] <;> rfl) (by simp only [dn] <;> rfl) ?_
         focus (first | exact ⟨_, rfl⟩ | exact ⟨_, _, _, rfl, hM.1⟩ | exact ⟨_, _, _, _, _, _, _, _, _, _, _, _, _, _, rfl, fine_at0 hM _⟩ | exact ⟨_, _, _, _, _, _, _, _, _, _, _, _, _, _, _, rfl⟩ | exact ⟨_, _, _, _, _, _, _, _, _, _, _, _, _, rfl⟩)))
    | (refine st_app (by rfl) (by simp only [dn, reduceCtorEq, hM] <;> rfl) (by simp only [dn, reduceCtorEq, hM] <;> rfl) (fun rr env' he => ?_)
       simp only [List.cons_append, List.nil_append] at he
       subst he)
    | (refine st_rng (fun LL env' he => ?_)
       simp only [List.cons_append, List.nil_append] at he
       subst he)
    | (refine st_lst (by simp only [List.map_cons, List.map_nil, List.cons_append, List.nil_append] <;> rfl) ?_)
    | (refine st_loop (by rfl) (by simp only [dn, reduceCtorEq, hM] <;> rfl) (by simp only [dn] <;> rfl) ?_ (fun env' h => hb env' h)
       exact ⟨M, a0, a1, a2, a3, a4, a5, a6, a7, a8, a9, a10, a11, a12, l, _, _, _, _, _, _, 0, _, _, rfl, hM, ht, by omega, by omega, rfl, by simp, (levelT_pos (by omega)).symm, idxW_hi _ _⟩)
    | (refine st_ret (by simp only [dn, reduceCtorEq, hM] <;> rfl) ?_
       refine Exists.intro [] ?_
       show _ = rowOut _ (levelT M a0 a1 a2 a5 l) []
       rw [levelT_neg (by omega)]
       rfl)
    | fail "no step")
theorem hLevel : cLevel.Holds objs Tryz.prog := runCtr_holdsm (X := { cxYb Tryz.prog [lLevel] with hints := hsLevel }) objsOk mixed hctsYb (callable _ Tryz.func91 (by kernel_rfl) (by kernel_rfl)) (by rintro ins outs _ ⟨_, _, _, _, _, _, _, _, _, _, _, _, _, _, _, rfl, _⟩ ⟨c, rfl⟩; rfl) (by rw [rLevel]; exact vLevel _ _)
set_option maxHeartbeats 4000000 in
theorem vQLevel (P : Program) (hs : List (Nat × Nat × List Nat)) : ∀ ins, ins.length = cQLevel.nin → cQLevel.pre ins → tQLevel.sat { cxYbq P [lQLevel] with hints := hs } (ctrR cQLevel) ins := by
  have hb : ∀ env, qlevInv env → tQLevelL0.sat { cxYbq P [lQLevel] with hints := hs } (ctrR cQLevel) env := by
    rintro env ⟨M, a0, a1, a2, a3, a4, a5, a6, a7, a8, a9, a10, a11, a12, l, x15, x16, x17, x18, x19, i, k, xs, c, rfl, hM, ht, h1, h2, h3, h4, h5, h6⟩
    have ha := okT_a ht

    unfold tQLevelL0
    repeat' (first
      | (first
        | (with_reducible refine st_need ?_ ?_
           focus (simp only [dn, reduceCtorEq, hM] <;> first | omega | assumption))
        | (with_reducible refine st_and ?_ ?_)
        | (with_reducible exact st_ok)
        | (with_reducible refine st_br (fun hc => ?_) (fun hc => ?_) <;> (simp only [dn, reduceCtorEq, hM] at hc) <;> (try (exfalso; first | contradiction | omega)))
        | (refine st_call (by rfl) (by simp only [dn, reduceCtorEq, hM] <;> rfl) ?_ (by simp only [fo_at, out_nextQ, out_idxQ] <;> rfl) (by simp only [dn] <;> rfl) ?_
           focus (first | exact fl_at hM | exact ⟨_, _, _, _, _, _, _, _, _, _, _, _, _, _, rfl, fine_at0 hM _⟩ | exact ⟨_, _, _, _, _, _, _, _, _, _, _, _, _, _, _, rfl⟩)))
      | (refine st_app (by rfl) (by simp only [dn, reduceCtorEq, hM] <;> rfl) (by simp only [dn, reduceCtorEq, hM] <;> rfl) (fun rr env' he => ?_)
         simp only [List.cons_append, List.nil_append] at he
         subst he)
      | (refine st_rng (fun LL env' he => ?_)
         simp only [List.cons_append, List.nil_append] at he
         subst he)
      | (refine st_lst (by simp only [List.map_cons, List.map_nil, List.cons_append, List.nil_append] <;> rfl) ?_)
      | (refine st_back (by rfl) (by simp only [dn, reduceCtorEq, hM] <;> rfl) (by simp only [dn] <;> rfl) (by rfl) ?_ ?_
         focus (rw [wrap_small (n := k + 1) (by omega) (by omega)]
                refine ⟨M, a0, a1, a2, a3, a4, a5, a6, a7, a8, a9, a10, a11, a12, l, _, _, _, _, _, _, _, _, _, rfl, hM, ht, by omega, by omega, by simp only [List.length_append, List.length_cons, List.length_take]; omega, by omega, lev_next h1 (by omega) h5 (by omega) (by omega), idxW_hi _ _⟩)
         focus (rw [wrap_small (n := k + 1) (by omega) (by omega)]; show (a5 - (k + 1)).toNat < (a5 - k).toNat; omega))
      | (refine st_ret (by simp only [dn, reduceCtorEq, hM] <;> rfl) ?_
         rw [lev_end (by omega), List.append_nil] at h5
         exact row_end h1 h3 h4 h5 _)
      | fail "no step")
  rintro ins _ ⟨M, a0, a1, a2, a3, a4, a5, a6, a7, a8, a9, a10, a11, a12, l, rfl, hM, ht⟩
  have ha := okT_a ht
  unfold tQLevel
  repeat' (first
    | (first
      | (with_reducible refine st_need ?_ ?_
         focus (simp only [dn, reduceCtorEq, hM] <;> first | omega | assumption))
      | (with_reducible refine st_and ?_ ?_)
      | (with_reducible exact st_ok)
      | (with_reducible refine st_br (fun hc => ?_) (fun hc => ?_) <;> (simp only [dn, reduceCtorEq, hM] at hc) <;> (try (exfalso; first | contradiction | omega)))
      | (refine st_call (by rfl) (by simp only [dn, reduceCtorEq, hM] <;> rfl) ?_ (by simp only [fo_at, out_nextQ, out_idxQ] <;> rfl) (by simp only [dn] <;> rfl) ?_
         focus (first | exact fl_at hM | exact ⟨_, _, _, _, _, _, _, _, _, _, _, _, _, _, rfl, fine_at0 hM _⟩ | exact ⟨_, _, _, _, _, _, _, _, _, _, _, _, _, _, _, rfl⟩)))
    | (refine st_app (by rfl) (by simp only [dn, reduceCtorEq, hM] <;> rfl) (by simp only [dn, reduceCtorEq, hM] <;> rfl) (fun rr env' he => ?_)
       simp only [List.cons_append, List.nil_append] at he
       subst he)
    | (refine st_rng (fun LL env' he => ?_)
       simp only [List.cons_append, List.nil_append] at he
       subst he)
    | (refine st_lst (by simp only [List.map_cons, List.map_nil, List.cons_append, List.nil_append] <;> rfl) ?_)
    | (refine st_loop (by rfl) (by simp only [dn, reduceCtorEq, hM] <;> rfl) (by simp only [dn] <;> rfl) ?_ (fun env' h => hb env' h)
       exact ⟨M, a0, a1, a2, a3, a4, a5, a6, a7, a8, a9, a10, a11, a12, l, _, _, _, _, _, _, 0, _, _, rfl, hM, ht, by omega, by omega, rfl, by simp, (levelT_pos (by omega)).symm, idxW_hi _ _⟩)
    | (refine st_ret (by simp only [dn, reduceCtorEq, hM] <;> rfl) ?_
       refine Exists.intro [] ?_
       show _ = rowOut _ (levelT M a0 a1 a2 a5 l) []
       rw [levelT_neg (by omega)]
       rfl)
    | fail "no step")
theorem hQLevel : cQLevel.Holds objs Tryz.prog := runCtr_holdsm (X := { cxYbq Tryz.prog [lQLevel] with hints := hsQLevel }) objsOk mixed hctsYq (callable _ Tryz.func93 (by kernel_rfl) (by kernel_rfl)) (by rintro ins outs _ ⟨_, _, _, _, _, _, _, _, _, _, _, _, _, _, _, rfl, _⟩ ⟨c, rfl⟩; rfl) (by rw [rQLevel]; exact vQLevel _ _)
set_option maxHeartbeats 4000000 in
theorem vLive (P : Program) (hs : List (Nat × Nat × List Nat)) : ∀ ins, ins.length = cLive.nin → cLive.pre ins → tLive.sat { cxYb P [lLive] with hints := hs } (ctrR cLive) ins := by
  have hb : ∀ env, livInv env → tLiveL0.sat { cxYb P [lLive] with hints := hs } (ctrR cLive) env := by
    rintro env ⟨M, a0, a1, a2, a3, a4, a5, a6, a7, a8, a9, a10, a11, a12, x14, x18, x19, x20, x21, i, k, m, xs, c, rfl, hM, ht, h1, h2, h1', h2', h3, h4, h5, h6⟩
    have ha := okT_a ht
    have hw63 := bit63 (fine_at0 hM (nextT a0 a1 a2 a5 i 0))
    unfold tLiveL0
    repeat' (first
      | (first
        | (with_reducible refine st_need ?_ ?_
           focus (simp only [dn, reduceCtorEq, hM, shr63, ht] <;> first | omega | assumption))
        | (with_reducible refine st_and ?_ ?_)
        | (with_reducible exact st_ok)
        | (with_reducible refine st_br (fun hc => ?_) (fun hc => ?_) <;> (simp only [dn, reduceCtorEq, hM, shr63, ht] at hc) <;> (try (exfalso; first | contradiction | omega)))
        | (refine st_call (by rfl) (by simp only [dn, reduceCtorEq, hM, shr63, ht] <;> rfl) ?_ (by simp only [out_words, out_memAt, out_nextP, out_idxP, out_Snd15] <;> rfl) (by simp only [dn] <;> rfl) ?_
           focus (first | exact ⟨_, rfl⟩ | exact ⟨_, _, _, rfl, hM.1⟩ | exact ⟨_, _, _, _, _, _, _, _, _, _, _, _, _, _, rfl, fine_at0 hM _⟩ | exact ⟨_, _, _, _, _, _, _, _, _, _, _, _, _, _, _, rfl⟩ | exact ⟨_, _, _, _, _, _, _, _, _, _, _, _, _, rfl⟩)))
      | (refine st_app (by rfl) (by simp only [dn, reduceCtorEq, hM] <;> rfl) (by simp only [dn, reduceCtorEq, hM] <;> rfl) (fun rr env' he => ?_)
         simp only [List.cons_append, List.nil_append] at he
         subst he)
      | (refine st_rng (fun LL env' he => ?_)
         simp only [List.cons_append, List.nil_append] at he
         subst he)
      | (refine st_lst (by simp only [List.map_cons, List.map_nil, List.cons_append, List.nil_append] <;> rfl) ?_)
      | (refine st_back (by rfl) (by simp only [dn, reduceCtorEq, hM, shr63] <;> rfl) (by simp only [dn] <;> rfl) (by rfl) ?_ ?_
         focus (rw [wrap_small (n := k + 1) (by omega) (by omega)]
                first
                  | (refine ⟨M, a0, a1, a2, a3, a4, a5, a6, a7, a8, a9, a10, a11, a12, _, _, _, _, _, _, k + 1, m, _, _, rfl, hM, ht, by omega, by omega, by omega, by omega, h3, h4, liv_next0 h1 h5 (by omega) (by omega) (goes_f (by assumption)), idxW_hi _ _⟩; done)
                  | (rw [wrap_small (n := m + 1) (by omega) (by omega)]
                     refine ⟨M, a0, a1, a2, a3, a4, a5, a6, a7, a8, a9, a10, a11, a12, _, _, _, _, _, _, k + 1, m + 1, _, _, rfl, hM, ht, by omega, by omega, by omega, by omega, by simp only [List.length_append, List.length_cons, List.length_take]; omega, by omega, liv_next1 h1 h1' (by omega) h5 (by omega) (by omega) (goes_t (by omega)), idxW_hi _ _⟩))
         focus (rw [wrap_small (n := k + 1) (by omega) (by omega)]; show (a5 - (k + 1)).toNat < (a5 - k).toNat; omega))
      | (refine st_ret (by simp only [dn, reduceCtorEq, hM] <;> rfl) ?_
         rw [lev_end (by omega), List.filter_nil, List.append_nil] at h5
         exact row_end h1' h3 h4 h5 _)
      | fail "no step")
  rintro ins _ ⟨M, a0, a1, a2, a3, a4, a5, a6, a7, a8, a9, a10, a11, a12, rfl, hM, ht⟩
  have ha := okT_a ht
  unfold tLive
  repeat' (first
    | (first
      | (with_reducible refine st_need ?_ ?_
         focus (simp only [dn, reduceCtorEq, hM, shr63, ht] <;> first | omega | assumption))
      | (with_reducible refine st_and ?_ ?_)
      | (with_reducible exact st_ok)
      | (with_reducible refine st_br (fun hc => ?_) (fun hc => ?_) <;> (simp only [dn, reduceCtorEq, hM, shr63, ht] at hc) <;> (try (exfalso; first | contradiction | omega)))
      | (refine st_call (by rfl) (by simp only [dn, reduceCtorEq, hM, shr63, ht] <;> rfl) ?_ (by simp only [out_words, out_memAt, out_nextP, out_idxP, out_Snd15] <;> rfl) (by simp only [dn] <;> rfl) ?_
         focus (first | exact ⟨_, rfl⟩ | exact ⟨_, _, _, rfl, hM.1⟩ | exact ⟨_, _, _, _, _, _, _, _, _, _, _, _, _, _, rfl, fine_at0 hM _⟩ | exact ⟨_, _, _, _, _, _, _, _, _, _, _, _, _, _, _, rfl⟩ | exact ⟨_, _, _, _, _, _, _, _, _, _, _, _, _, rfl⟩)))
    | (refine st_app (by rfl) (by simp only [dn, reduceCtorEq, hM] <;> rfl) (by simp only [dn, reduceCtorEq, hM] <;> rfl) (fun rr env' he => ?_)
       simp only [List.cons_append, List.nil_append] at he
       subst he)
    | (refine st_rng (fun LL env' he => ?_)
       simp only [List.cons_append, List.nil_append] at he
       subst he)
    | (refine st_lst (by simp only [List.map_cons, List.map_nil, List.cons_append, List.nil_append] <;> rfl) ?_)
    | (refine st_loop (by rfl) (by simp only [dn, reduceCtorEq, hM] <;> rfl) (by simp only [dn] <;> rfl) ?_ (fun env' h => hb env' h)
       exact ⟨M, a0, a1, a2, a3, a4, a5, a6, a7, a8, a9, a10, a11, a12, _, _, _, _, _, _, 0, 0, _, _, rfl, hM, ht, by omega, by omega, by omega, by omega, rfl, by simp, by unfold liveT; rw [levelT_pos (next_head ht)]; rfl, idxW_hi _ _⟩)
    | fail
    | fail "no step")
theorem hLive : cLive.Holds objs Tryz.prog := runCtr_holdsm (X := { cxYb Tryz.prog [lLive] with hints := hsLive }) objsOk mixed hctsYb (callable _ Tryz.func92 (by kernel_rfl) (by kernel_rfl)) (by rintro ins outs _ ⟨_, _, _, _, _, _, _, _, _, _, _, _, _, _, rfl, _⟩ ⟨c, rfl⟩; rfl) (by rw [rLive]; exact vLive _ _)
theorem hctsYl : ∀ (ci : Nat) (c : Ctr U), ctsYl[ci]? = some c → c.Holds objs Tryz.prog := by
  intro ci c h
  match ci, h with
  | 0, h => cases h; exact hQAt
  | 1, h => cases h; exact hIdxQ
  | 2, h => cases h; exact hNextQ
  | 3, h => cases h; exact hQLevel
  | n + 4, h => cases h
section
variable {k : Tree} {env : List (EV U)} {X : Cx U} {R : List (EV U) → List (EV U) → Prop} {M : MemSt} {β : List Bnd} {ci : Nat}
theorem st_qlevel {a0 a1 a2 a3 a4 a5 a6 a7 a8 a9 a10 a11 a12 l : Int} (hc : X.cts[ci]? = some cQLevel) (ha : β.map (Bnd.den env) = [.u (.rmem M), .i a0, .i a1, .i a2, .i a3, .i a4, .i a5, .i a6, .i a7, .i a8, .i a9, .i a10, .i a11, .i a12, .i l]) (hM : M.fine) (ht : okT a0 a1 a2 a5 = true)
    (hk : ∀ cc env', env ++ [.u (.rmem M), .l (levelT M a0 a1 a2 a5 l ++ cc), .i (levelT M a0 a1 a2 a5 l).length, .i (((levelT M a0 a1 a2 a5 l).length + cc.length : Nat) : Int)] = env' → k.sat X R env') : (Tree.callm ci β k).sat X R env :=
  st_callm hc ha ⟨M, a0, a1, a2, a3, a4, a5, a6, a7, a8, a9, a10, a11, a12, l, rfl, hM, ht⟩ (fun o env' hm he => by obtain ⟨c, rfl⟩ := hm; exact hk c env' he)
theorem st_level {a0 a1 a2 a3 a4 a5 a6 a7 a8 a9 a10 a11 a12 l : Int} (hc : X.cts[ci]? = some cLevel) (ha : β.map (Bnd.den env) = [.u (.mem M), .i a0, .i a1, .i a2, .i a3, .i a4, .i a5, .i a6, .i a7, .i a8, .i a9, .i a10, .i a11, .i a12, .i l]) (hM : M.fine) (ht : okT a0 a1 a2 a5 = true)
    (hk : ∀ cc env', env ++ [.u (.mem M), .l (levelT M a0 a1 a2 a5 l ++ cc), .i (levelT M a0 a1 a2 a5 l).length, .i (((levelT M a0 a1 a2 a5 l).length + cc.length : Nat) : Int)] = env' → k.sat X R env') : (Tree.callm ci β k).sat X R env :=
  st_callm hc ha ⟨M, a0, a1, a2, a3, a4, a5, a6, a7, a8, a9, a10, a11, a12, l, rfl, hM, ht⟩ (fun o env' hm he => by obtain ⟨c, rfl⟩ := hm; exact hk c env' he)
theorem st_live {a0 a1 a2 a3 a4 a5 a6 a7 a8 a9 a10 a11 a12 : Int} (hc : X.cts[ci]? = some cLive) (ha : β.map (Bnd.den env) = [.u (.mem M), .i a0, .i a1, .i a2, .i a3, .i a4, .i a5, .i a6, .i a7, .i a8, .i a9, .i a10, .i a11, .i a12]) (hM : M.fine) (ht : okT a0 a1 a2 a5 = true)
    (hk : ∀ cc env', env ++ [.u (.mem M), .l (liveT M a0 a1 a2 a5 ++ cc), .i (liveT M a0 a1 a2 a5).length, .i (((liveT M a0 a1 a2 a5).length + cc.length : Nat) : Int)] = env' → k.sat X R env') : (Tree.callm ci β k).sat X R env :=
  st_callm hc ha ⟨M, a0, a1, a2, a3, a4, a5, a6, a7, a8, a9, a10, a11, a12, rfl, hM, ht⟩ (fun o env' hm he => by obtain ⟨c, rfl⟩ := hm; exact hk c env' he)
theorem st_qlive {a0 a1 a2 a3 a4 a5 a6 a7 a8 a9 a10 a11 a12 : Int} (hc : X.cts[ci]? = some cQLive) (ha : β.map (Bnd.den env) = [.u (.rmem M), .i a0, .i a1, .i a2, .i a3, .i a4, .i a5, .i a6, .i a7, .i a8, .i a9, .i a10, .i a11, .i a12]) (hM : M.fine) (ht : okT a0 a1 a2 a5 = true)
    (hk : ∀ cc env', env ++ [.u (.rmem M), .l (liveT M a0 a1 a2 a5 ++ cc), .i (liveT M a0 a1 a2 a5).length, .i (((liveT M a0 a1 a2 a5).length + cc.length : Nat) : Int)] = env' → k.sat X R env') : (Tree.callm ci β k).sat X R env :=
  st_callm hc ha ⟨M, a0, a1, a2, a3, a4, a5, a6, a7, a8, a9, a10, a11, a12, rfl, hM, ht⟩ (fun o env' hm he => by obtain ⟨c, rfl⟩ := hm; exact hk c env' he)
end
set_option maxHeartbeats 4000000 in
theorem vQLive (P : Program) (hs : List (Nat × Nat × List Nat)) : ∀ ins, ins.length = cQLive.nin → cQLive.pre ins → tQLive.sat { cxYbl P [lQLive] with hints := hs } (ctrR cQLive) ins := by
  have hb : ∀ env, qlivInv env → tQLiveL0.sat { cxYbl P [lQLive] with hints := hs } (ctrR cQLive) env := by
    rintro env ⟨M, a0, a1, a2, a3, a4, a5, a6, a7, a8, a9, a10, a11, a12, L, L2, x17, k, m, xs, c, rfl, hM, ht, hL, hL1, h1, h2, h1', h2', h3, h4, h5⟩
    have ha := okT_a ht
    have hw63 := bit63 (fine_at0 hM (nextT a0 a1 a2 a5 ((L ++ L2)[k.toNat]?.getD 0) 0))
    have hg : k < L.length → (L ++ L2)[k.toNat]?.getD 0 = L[k.toNat]?.getD 0 := fun g => by rw [List.getElem?_append_left (by omega)]
    have hlen : (L ++ L2).length = L.length + L2.length := List.length_append
    unfold tQLiveL0
    have hk0 : 0 ≤ (L.length : Int) := by omega
    repeat' (first
      | (first
        | (with_reducible refine st_need ?_ ?_
           focus (simp only [dn, reduceCtorEq, hM, shr63] <;> first | omega | assumption))
        | (with_reducible refine st_and ?_ ?_)
        | (with_reducible exact st_ok)
        | (with_reducible refine st_br (fun hc => ?_) (fun hc => ?_) <;> (simp only [dn, reduceCtorEq, hM, shr63] at hc) <;> (try (exfalso; first | contradiction | omega)))
        | (refine st_call (by rfl) (by simp only [dn, reduceCtorEq, hM, shr63] <;> rfl) ?_ (by simp only [fo_at, out_nextQ, out_idxQ] <;> rfl) (by simp only [dn] <;> rfl) ?_
           focus (first | exact fl_at hM | exact ⟨_, _, _, _, _, _, _, _, _, _, _, _, _, _, rfl, fine_at0 hM _⟩ | exact ⟨_, _, _, _, _, _, _, _, _, _, _, _, _, _, _, rfl⟩)))
      | (refine st_app (by rfl) (by simp only [dn, reduceCtorEq, hM] <;> rfl) (by simp only [dn, reduceCtorEq, hM] <;> rfl) (fun rr env' he => ?_)
         simp only [List.cons_append, List.nil_append] at he
         subst he)
      | (refine st_rng (fun LL env' he => ?_)
         simp only [List.cons_append, List.nil_append] at he
         subst he)
      | (refine st_lst (by simp only [List.map_cons, List.map_nil, List.cons_append, List.nil_append] <;> rfl) ?_)
      | (refine st_back (by rfl) (by simp only [dn, reduceCtorEq, hM, shr63] <;> rfl) (by simp only [dn] <;> rfl) (by rfl) ?_ ?_
         focus (rw [wrap_small (n := k + 1) (by omega) (by omega)]
                first
                  | (refine ⟨M, a0, a1, a2, a3, a4, a5, a6, a7, a8, a9, a10, a11, a12, L, L2, _, k + 1, m, _, _, rfl, hM, ht, hL, hL1, by omega, by omega, by omega, by omega, h3, h4, qliv_next0 h1 (by omega) h5 (hg (by omega)) (goes_f (by omega))⟩; done)
                  | (rw [wrap_small (n := m + 1) (by omega) (by omega)]
                     refine ⟨M, a0, a1, a2, a3, a4, a5, a6, a7, a8, a9, a10, a11, a12, L, L2, _, k + 1, m + 1, _, _, rfl, hM, ht, hL, hL1, by omega, by omega, by omega, by omega, by simp only [List.length_append, List.length_cons, List.length_take]; omega, by omega, qliv_next1 h1 h1' (by omega) (by omega) h5 (hg (by omega)) (goes_t (by omega))⟩))
         focus (rw [wrap_small (n := k + 1) (by omega) (by omega)]; show ((L.length : Int) - (k + 1)).toNat < ((L.length : Int) - k).toNat; omega))
      | (refine st_ret (by simp only [dn, reduceCtorEq, hM] <;> rfl) ?_
         rw [List.drop_of_length_le (by omega), List.filter_nil, List.append_nil] at h5
         exact row_end h1' h3 h4 h5 _)
      | fail "no step")
  rintro ins _ ⟨M, a0, a1, a2, a3, a4, a5, a6, a7, a8, a9, a10, a11, a12, rfl, hM, ht⟩
  have ha := okT_a ht
  unfold tQLive
  refine st_qlevel (by rfl) (by simp only [List.map_cons, List.map_nil, Bnd.den, Ex.den, gI, List.getElem?_cons_zero, List.getElem?_cons_succ, List.getD, Option.getD_some] <;> rfl) hM ht (fun cc env' he => ?_)
  simp only [List.cons_append, List.nil_append] at he
  subst he
  repeat' (first
    | (first
      | (with_reducible refine st_need ?_ ?_
         focus (simp only [dn, reduceCtorEq, hM, shr63] <;> first | omega | assumption))
      | (with_reducible refine st_and ?_ ?_)
      | (with_reducible exact st_ok)
      | (with_reducible refine st_br (fun hc => ?_) (fun hc => ?_) <;> (simp only [dn, reduceCtorEq, hM, shr63] at hc) <;> (try (exfalso; first | contradiction | omega)))
      | (refine st_call (by rfl) (by simp only [dn, reduceCtorEq, hM, shr63] <;> rfl) ?_ (by simp only [fo_at, out_nextQ, out_idxQ] <;> rfl) (by simp only [dn] <;> rfl) ?_
         focus (first | exact fl_at hM | exact ⟨_, _, _, _, _, _, _, _, _, _, _, _, _, _, rfl, fine_at0 hM _⟩ | exact ⟨_, _, _, _, _, _, _, _, _, _, _, _, _, _, _, rfl⟩)))
    | (refine st_app (by rfl) (by simp only [dn, reduceCtorEq, hM] <;> rfl) (by simp only [dn, reduceCtorEq, hM] <;> rfl) (fun rr env' he => ?_)
       simp only [List.cons_append, List.nil_append] at he
       subst he)
    | (refine st_rng (fun LL env' he => ?_)
       simp only [List.cons_append, List.nil_append] at he
       subst he)
    | (refine st_lst (by simp only [List.map_cons, List.map_nil, List.cons_append, List.nil_append] <;> rfl) ?_)
    | (refine st_loop (by rfl) (by simp only [dn, reduceCtorEq, hM] <;> rfl) (by simp only [dn] <;> rfl) ?_ (fun env' h => hb env' h)
       exact ⟨M, a0, a1, a2, a3, a4, a5, a6, a7, a8, a9, a10, a11, a12, levelT M a0 a1 a2 a5 0, _, _, 0, 0, _, _, rfl, hM, ht, rfl, levelT_len ht, by omega, by omega, by omega, by omega, rfl, by simp, rfl⟩)
    | fail
    | fail "no step")
theorem hQLive : cQLive.Holds objs Tryz.prog := runCtr_holdsm (X := { cxYbl Tryz.prog [lQLive] with hints := hsQLive }) objsOk mixed hctsYl (callable _ Tryz.func94 (by kernel_rfl) (by kernel_rfl)) (by rintro ins outs _ ⟨_, _, _, _, _, _, _, _, _, _, _, _, _, _, rfl, _⟩ ⟨c, rfl⟩; rfl) (by rw [rQLive]; exact vQLive _ _)
end Go.Proofs.YtbmbiiiacajolaaGreat
