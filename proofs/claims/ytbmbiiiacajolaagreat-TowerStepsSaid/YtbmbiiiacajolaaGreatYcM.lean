import Derived.Test.YtbmbiiiacajolaaGreatYbM
import Derived.Test.YtbmbiiiacajolaaGreatKiV
import Derived.KernelRfl
/- What is told of a tower, on both sides alike: the contract. -/
namespace Go.Proofs.YtbmbiiiacajolaaGreat
set_option linter.unusedVariables false
set_option linter.unusedSimpArgs false
set_option linter.unusedSectionVars false
open Go

def cOverWords : Ctr U :=
  { fn := 80, nin := 3, args := [.slice 0 (.var 1) (.var 2)], heap := [.row .u64 43 0]
    pre := fun ins => ∃ xs a c, ins = [.l xs, .i a, .i c] ∧ 0 ≤ a ∧ a ≤ xs.length ∧ a < 2 ^ 62, nout := 1
    out := fun ins => match ins with | [.l xs, .i a, _] => [.l (List.replicate a.toNat 7777777 ++ xs.drop a.toNat)] | _ => []
    ret := .tuple [], post := [.row .u64 43 3] }
def overWInv (env : List (EV U)) : Prop := ∃ xs a c i, env = [.l xs, .i a, .i c, .l (List.replicate i.toNat 7777777 ++ xs.drop i.toNat), .i i] ∧ 0 ≤ i ∧ i ≤ a ∧ a ≤ xs.length ∧ a < 2 ^ 62
def lOverWords : LoopS U :=
  { fn := 80, rid := 1, nv := 2, tm := [(2, .int .i64 (.var 4))], hp := [(0, .row .u64 43 3)], reb := [], inv := overWInv, mu := fun env => (gI env 1 - gI env 4).toNat }
/-- the word of a part of a node -/
def nodW (M : MemSt) (n h a s i p : Int) : Int := M.at0 (atT n h a s i p)
def nexK (M : MemSt) (n h a s i : Int) : Nat → List Int
  | 0 => []
  | m + 1 => nexK M n h a s i m ++ [nodW M n h a s i (4 + m)]
def nodPre (ins : List (EV U)) : Prop := ∃ M : MemSt, ∃ a0 a1 a2 a3 a4 a5 a6 a7 a8 a9 a10 a11 a12 i : Int, ins = [.u (.mem M), .i a0, .i a1, .i a2, .i a3, .i a4, .i a5, .i a6, .i a7, .i a8, .i a9, .i a10, .i a11, .i a12, .i i] ∧ M.fine ∧ okT a0 a1 a2 a5 = true ∧ 0 ≤ i ∧ i < a5
def qnodPre (ins : List (EV U)) : Prop := ∃ M : MemSt, ∃ a0 a1 a2 a3 a4 a5 a6 a7 a8 a9 a10 a11 a12 i : Int, ins = [.u (.rmem M), .i a0, .i a1, .i a2, .i a3, .i a4, .i a5, .i a6, .i a7, .i a8, .i a9, .i a10, .i a11, .i a12, .i i] ∧ M.fine ∧ okT a0 a1 a2 a5 = true ∧ 0 ≤ i ∧ i < a5
def nodPre0 (ins : List (EV U)) : Prop := ∃ M : MemSt, ∃ a0 a1 a2 a3 a4 a5 a6 a7 a8 a9 a10 a11 a12 i : Int, ins = [.u (.mem M), .i a0, .i a1, .i a2, .i a3, .i a4, .i a5, .i a6, .i a7, .i a8, .i a9, .i a10, .i a11, .i a12, .i i] ∧ okT a0 a1 a2 a5 = true ∧ (i < 0 ∨ a5 ≤ i)
def qnodPre0 (ins : List (EV U)) : Prop := ∃ M : MemSt, ∃ a0 a1 a2 a3 a4 a5 a6 a7 a8 a9 a10 a11 a12 i : Int, ins = [.u (.rmem M), .i a0, .i a1, .i a2, .i a3, .i a4, .i a5, .i a6, .i a7, .i a8, .i a9, .i a10, .i a11, .i a12, .i i] ∧ okT a0 a1 a2 a5 = true ∧ (i < 0 ∨ a5 ≤ i)
def nodOut (x : EV U) (M : MemSt) (n h a s i : Int) (c : List Int) : List (EV U) := [x, .i (nodW M n h a s i 0), .i (nodW M n h a s i 1), .i (nodW M n h a s i 2), .i (nodW M n h a s i 3), .l (nexK M n h a s i a.toNat ++ c), .i a, .i ((a.toNat + c.length : Nat) : Int)]
def nodMany (c : List Int) (ins : List (EV U)) : List (EV U) := match ins with
  | [.u (.mem M), .i a0, .i a1, .i a2, _, _, .i a5, _, _, _, _, _, _, _, .i i] => nodOut (.u (.mem M)) M a0 a1 a2 a5 i c | _ => []
def qnodMany (c : List Int) (ins : List (EV U)) : List (EV U) := match ins with
  | [.u (.rmem M), .i a0, .i a1, .i a2, _, _, .i a5, _, _, _, _, _, _, _, .i i] => nodOut (.u (.rmem M)) M a0 a1 a2 a5 i c | _ => []
def cNodP : Ctr U :=
  { fn := 88, nin := 15, args := [twV 1, .int .i64 (.var 14), .hnd 0], heap := [.abs 0], pre := nodPre, nout := 8, out := fun _ => [], many := some nodMany
    ret := .tuple [.agg [.int .u64 (.var 16), .int .u64 (.var 17), .int .u64 (.var 18), .int .u64 (.var 19), .slice 1 (.var 21) (.var 22)], .bool (.lit true)], post := [.abs 15, .row .u64 43 20] }
def cNodQ : Ctr U := { cNodP with fn := 90, pre := qnodPre, many := some qnodMany }
def cNodP0 : Ctr U :=
  { fn := 88, nin := 15, args := [twV 1, .int .i64 (.var 14), .hnd 0], heap := [.abs 0], pre := nodPre0, nout := 1, out := fun ins => ins.take 1
    ret := .tuple [.agg [.int .u64 (.lit 0), .int .u64 (.lit 0), .int .u64 (.lit 0), .int .u64 (.lit 0), .nils], .bool (.lit false)], post := [.abs 15] }
def cNodQ0 : Ctr U := { cNodP0 with fn := 90, pre := qnodPre0 }
def nodInv (env : List (EV U)) : Prop := ∃ M : MemSt, ∃ a0 a1 a2 a3 a4 a5 a6 a7 a8 a9 a10 a11 a12 i : Int, ∃ x15 x19 x21 x23 x25 : EV U, ∃ k : Int, ∃ xs : List Int, ∃ c : Int, env = [.u (.mem M), .i a0, .i a1, .i a2, .i a3, .i a4, .i a5, .i a6, .i a7, .i a8, .i a9, .i a10, .i a11, .i a12, .i i, x15, .u (.mem M), .l M.W, .i M.W.length, x19, .i (nodW M a0 a1 a2 a5 i 0), x21, .i (nodW M a0 a1 a2 a5 i 1), x23, .i (nodW M a0 a1 a2 a5 i 2), x25, .i (nodW M a0 a1 a2 a5 i 3), .i k, .l xs, .i c] ∧
  M.fine ∧ okT a0 a1 a2 a5 = true ∧ 0 ≤ i ∧ i < a5 ∧ 0 ≤ k ∧ k ≤ a2 ∧ c = xs.length ∧ k ≤ c ∧ xs.take k.toNat = nexK M a0 a1 a2 a5 i k.toNat
def lNodP : LoopS U :=
  { fn := 88, rid := 7, nv := 3, tm := [(35, .int .i64 (.var 27))], hp := [(6, .cells [.int .u64 (.var 20), .int .u64 (.var 22), .int .u64 (.var 24), .int .u64 (.var 26), .slice 7 (.var 27) (.var 29)] 128), (7, .row .u64 43 28)], reb := [(7, 0)], inv := nodInv, mu := fun env => (gI env 3 - gI env 27).toNat }
def qnodInv (env : List (EV U)) : Prop := ∃ M : MemSt, ∃ a0 a1 a2 a3 a4 a5 a6 a7 a8 a9 a10 a11 a12 i : Int, ∃ x15 x16 x17 x19 x20 x22 x23 x25 x26 : EV U, ∃ k : Int, ∃ xs : List Int, ∃ c : Int, env = [.u (.rmem M), .i a0, .i a1, .i a2, .i a3, .i a4, .i a5, .i a6, .i a7, .i a8, .i a9, .i a10, .i a11, .i a12, .i i, x15, x16, x17, .i (nodW M a0 a1 a2 a5 i 0), x19, x20, .i (nodW M a0 a1 a2 a5 i 1), x22, x23, .i (nodW M a0 a1 a2 a5 i 2), x25, x26, .i (nodW M a0 a1 a2 a5 i 3), .i k, .l xs, .i c, .u (.rmem M)] ∧
  M.fine ∧ okT a0 a1 a2 a5 = true ∧ 0 ≤ i ∧ i < a5 ∧ 0 ≤ k ∧ k ≤ a2 ∧ c = xs.length ∧ k ≤ c ∧ xs.take k.toNat = nexK M a0 a1 a2 a5 i k.toNat
def lNodQ : LoopS U :=
  { fn := 90, rid := 5, nv := 4, tm := [(9, .int .i64 (.var 28))], hp := [(0, .abs 31), (3, .cells [.int .u64 (.var 18), .int .u64 (.var 21), .int .u64 (.var 24), .int .u64 (.var 27), .slice 4 (.var 28) (.var 30)] 128), (4, .row .u64 43 29)], reb := [(4, 0)], inv := qnodInv, mu := fun env => (gI env 3 - gI env 28).toNat }
def ctsYcp : List (Ctr U) := [cWords, cAt, cMemAt]
def ctsYcq : List (Ctr U) := [cRAt, cNextQ, cQAt]
def cxYcp (P : Program) : Cx U := { cx P ctsYcp with join := true, loops := [lNodP] }
def cxYcq (P : Program) : Cx U := { cx P ctsYcq with join := true, loops := [lNodQ] }
def seenOut (ins : List (EV U)) : List (EV U) := match ins with | .u (.mem M) :: _ => [.u (.mem M), .u (.rmem M), .b true] | _ => []
def seenPre (ins : List (EV U)) : Prop := ∃ M : MemSt, ∃ a0 a1 a2 a3 a4 a5 a6 a7 a8 a9 a10 a11 a12 i l : Int, ins = [.u (.mem M), .u (.rmem M), .i a0, .i a1, .i a2, .i a3, .i a4, .i a5, .i a6, .i a7, .i a8, .i a9, .i a10, .i a11, .i a12, .i i, .i l] ∧ M.fine ∧ okT a0 a1 a2 a5 = true
def seenPreA (ins : List (EV U)) : Prop := ∃ M : MemSt, ∃ a0 a1 a2 a3 a4 a5 a6 a7 a8 a9 a10 a11 a12 i l : Int, ins = [.u (.mem M), .u (.rmem M), .i a0, .i a1, .i a2, .i a3, .i a4, .i a5, .i a6, .i a7, .i a8, .i a9, .i a10, .i a11, .i a12, .i i, .i l] ∧ M.fine ∧ okT a0 a1 a2 a5 = true ∧ 0 ≤ i ∧ i < a5
def seenPreB (ins : List (EV U)) : Prop := ∃ M : MemSt, ∃ a0 a1 a2 a3 a4 a5 a6 a7 a8 a9 a10 a11 a12 i l : Int, ins = [.u (.mem M), .u (.rmem M), .i a0, .i a1, .i a2, .i a3, .i a4, .i a5, .i a6, .i a7, .i a8, .i a9, .i a10, .i a11, .i a12, .i i, .i l] ∧ M.fine ∧ okT a0 a1 a2 a5 = true ∧ (i < 0 ∨ a5 ≤ i)
def cSeen : Ctr U :=
  { fn := 26, nin := 17, args := [twV 2, .int .i64 (.var 15), .int .i64 (.var 16), .hnd 0, .hnd 1], heap := [.abs 0, .abs 1], pre := seenPre, nout := 3, out := seenOut, ret := .bool (.var 19), post := [.abs 17, .abs 18] }
def cSeenA : Ctr U := { cSeen with pre := seenPreA }
def cSeenB : Ctr U := { cSeen with pre := seenPreB }
def ctsYc : List (Ctr U) := [cLevel, cLive, cQLevel, cQLive, cSameWords, cSameInts, cOverWords, cOverInts]
def cxYcA (P : Program) : Cx U := { cx P (ctsYc ++ [cNodP, cNodQ]) with join := true }
def cxYcB (P : Program) : Cx U := { cx P (ctsYc ++ [cNodP0, cNodQ0]) with join := true }
end Go.Proofs.YtbmbiiiacajolaaGreat
/- The ways of the runs, as a program of ours printed them. -/
namespace Go.Proofs.YtbmbiiiacajolaaGreat
set_option linter.unusedVariables false
set_option linter.unusedSimpArgs false
set_option linter.unusedSectionVars false
open Go
set_option maxRecDepth 100000

def hsOverWords : List (Nat × Nat × List Nat) := []
def tOverWordsL0 : Tree := (.need (.cmp .leq (.lit 0) (.var 1)) (.br (.cmp .lss (.var 4) (.var 1))
 (.need (.cmp .leq (.lit 0) (.var 4)) (.need (.cmp .lss (.var 4) (.var 1)) (.need (.cmp .lss (.var 4) (.len 3)) (.need (.cmp .leq (.lit 0) (.var 4)) (.need (.cmp .lss (.var 4) (.len 3)) (.ext (.setl 3 (.var 4) (.lit 7777777)) (.back 0 3 [.var 5, .ex (.bin .add .i64 (.var 4) (.lit 1))])))))))
 (.ret [.var 3])))
def tOverWords : Tree := (.loop 0 3 [.var 0, .ex (.lit 0)] tOverWordsL0)
theorem rOverWords : runCtr { (cxEO Tryz.prog [lOverWords]) with hints := hsOverWords } 20 cOverWords [] [] = tOverWords := by kernel_rfl

def hsNodP : List (Nat × Nat × List Nat) := []
def tNodPL0 : Tree := (.br (.cmp .lss (.var 27) (.var 3))
 (.and (.and (.and (.call 1 [.ex (.var 1), .ex (.var 2), .ex (.var 3), .ex (.var 4), .ex (.var 5), .ex (.var 6), .ex (.var 7), .ex (.var 8), .ex (.var 9), .ex (.var 10), .ex (.var 11), .ex (.var 12), .ex (.var 13), .ex (.var 14), .ex (.bin .add .i64 (.lit 4) (.var 27))] (.and (.call 2 [.var 17, .ex (.var 18), .ex (.var 18), .ex (.var 30)] (.and (.and (.need (.cmp .leq (.lit 0) (.var 27)) (.need (.cmp .leq (.var 27) (.var 29)) (.need (.cmp .leq (.var 29) (.len 28)) (.need (.cmp .leq (.len 28) (.var 29)) (.need (.cmp .leq (.var 27) (.lit 1000000)) (.app (some 28) (.var 27) (.var 31) (.and (.back 0 27 [.ex (.bin .add .i64 (.var 27) (.lit 1)), .var 32, .ex (.var 33)]) .ok))))))) .ok) .ok)) .ok)) .ok) .ok)
 (.and (.and (.call 1 [.ex (.var 1), .ex (.var 2), .ex (.var 3), .ex (.var 4), .ex (.var 5), .ex (.var 6), .ex (.var 7), .ex (.var 8), .ex (.var 9), .ex (.var 10), .ex (.var 11), .ex (.var 12), .ex (.var 13), .ex (.var 14), .ex (.bin .add .i64 (.lit 4) (.var 27))] (.and (.call 2 [.var 17, .ex (.var 18), .ex (.var 18), .ex (.var 30)] (.and (.and (.and (.need (.cmp .leq (.lit 0) (.var 27)) (.need (.cmp .leq (.var 27) (.var 29)) (.need (.cmp .leq (.var 29) (.len 28)) (.need (.cmp .leq (.len 28) (.var 29)) (.need (.cmp .leq (.var 27) (.lit 1000000)) (.app (some 28) (.var 27) (.var 31) (.and (.back 0 27 [.ex (.bin .add .i64 (.var 27) (.lit 1)), .var 32, .ex (.var 33)]) .ok))))))) .ok) .ok)
 (.and (.and (.and (.need (.cmp .leq (.lit 0) (.var 27)) (.need (.cmp .leq (.var 27) (.var 29)) (.need (.cmp .leq (.var 29) (.len 28)) (.need (.cmp .leq (.len 28) (.var 29)) (.need (.cmp .leq (.var 27) (.lit 1000000)) (.app (some 28) (.var 27) (.var 31) (.and (.back 0 27 [.ex (.bin .add .i64 (.var 27) (.lit 1)), .var 32, .ex (.var 33)]) .ok))))))) .ok) .ok) .ok))) .ok)) .ok) .ok))
 (.ret [.var 16, .ex (.var 20), .ex (.var 22), .ex (.var 24), .ex (.var 26), .var 28, .ex (.var 27), .ex (.var 29)]))
def tNodP : Tree := (.br (.cmp .lss (.var 14) (.lit 0))
 (Tree.fail "result form")
 (.call 1 [.ex (.var 1), .ex (.var 2), .ex (.var 3), .ex (.var 4), .ex (.var 5), .ex (.var 6), .ex (.var 7), .ex (.var 8), .ex (.var 9), .ex (.var 10), .ex (.var 11), .ex (.var 12), .ex (.var 13), .ex (.var 14), .ex (.lit 0)] (.br (.cmp .lss (.var 15) (.lit 0))
 (Tree.fail "result form")
 (.call 0 [.var 0] (.and (.call 1 [.ex (.var 1), .ex (.var 2), .ex (.var 3), .ex (.var 4), .ex (.var 5), .ex (.var 6), .ex (.var 7), .ex (.var 8), .ex (.var 9), .ex (.var 10), .ex (.var 11), .ex (.var 12), .ex (.var 13), .ex (.var 14), .ex (.lit 0)] (.and (.call 2 [.var 17, .ex (.var 18), .ex (.var 18), .ex (.var 19)] (.and (.call 1 [.ex (.var 1), .ex (.var 2), .ex (.var 3), .ex (.var 4), .ex (.var 5), .ex (.var 6), .ex (.var 7), .ex (.var 8), .ex (.var 9), .ex (.var 10), .ex (.var 11), .ex (.var 12), .ex (.var 13), .ex (.var 14), .ex (.lit 1)] (.and (.call 2 [.var 17, .ex (.var 18), .ex (.var 18), .ex (.var 21)] (.and (.call 1 [.ex (.var 1), .ex (.var 2), .ex (.var 3), .ex (.var 4), .ex (.var 5), .ex (.var 6), .ex (.var 7), .ex (.var 8), .ex (.var 9), .ex (.var 10), .ex (.var 11), .ex (.var 12), .ex (.var 13), .ex (.var 14), .ex (.lit 2)] (.and (.call 2 [.var 17, .ex (.var 18), .ex (.var 18), .ex (.var 23)] (.and (.call 1 [.ex (.var 1), .ex (.var 2), .ex (.var 3), .ex (.var 4), .ex (.var 5), .ex (.var 6), .ex (.var 7), .ex (.var 8), .ex (.var 9), .ex (.var 10), .ex (.var 11), .ex (.var 12), .ex (.var 13), .ex (.var 14), .ex (.lit 3)] (.and (.call 2 [.var 17, .ex (.var 18), .ex (.var 18), .ex (.var 25)] (.ext (.lst []) (.loop 0 27 [.ex (.lit 0), .var 27, .ex (.lit 0)] tNodPL0))) .ok)) .ok)) .ok)) .ok)) .ok)) .ok)) .ok)) .ok)))))
theorem rNodP : runCtr { (cxYcp Tryz.prog) with hints := hsNodP } 20 cNodP [] [] = tNodP := by kernel_rfl

def hsNodQ : List (Nat × Nat × List Nat) := []
def tNodQL0 : Tree := (.br (.cmp .lss (.var 28) (.var 3))
 (.and (.and (.call 1 [.ex (.var 1), .ex (.var 2), .ex (.var 3), .ex (.var 4), .ex (.var 5), .ex (.var 6), .ex (.var 7), .ex (.var 8), .ex (.var 9), .ex (.var 10), .ex (.var 11), .ex (.var 12), .ex (.var 13), .ex (.var 14), .ex (.var 28)] (.and (.call 2 [.var 31, .ex (.var 32)] (.and (.and (.need (.cmp .leq (.lit 0) (.var 28)) (.need (.cmp .leq (.var 28) (.var 30)) (.need (.cmp .leq (.var 30) (.len 29)) (.need (.cmp .leq (.len 29) (.var 30)) (.need (.cmp .leq (.var 28) (.lit 1000000)) (.app (some 29) (.var 28) (.var 34) (.and (.back 0 28 [.ex (.bin .add .i64 (.var 28) (.lit 1)), .var 35, .ex (.var 36), .var 33]) .ok))))))) .ok) .ok)) .ok)) .ok)
 (.and (.call 1 [.ex (.var 1), .ex (.var 2), .ex (.var 3), .ex (.var 4), .ex (.var 5), .ex (.var 6), .ex (.var 7), .ex (.var 8), .ex (.var 9), .ex (.var 10), .ex (.var 11), .ex (.var 12), .ex (.var 13), .ex (.var 14), .ex (.var 28)] (.and (.and (.call 2 [.var 31, .ex (.var 32)] (.and (.and (.need (.cmp .leq (.lit 0) (.var 28)) (.need (.cmp .leq (.var 28) (.var 30)) (.need (.cmp .leq (.var 30) (.len 29)) (.need (.cmp .leq (.len 29) (.var 30)) (.need (.cmp .leq (.var 28) (.lit 1000000)) (.app (some 29) (.var 28) (.var 34) (.and (.back 0 28 [.ex (.bin .add .i64 (.var 28) (.lit 1)), .var 35, .ex (.var 36), .var 33]) .ok))))))) .ok) .ok)) .ok)
 (.and (.call 2 [.var 31, .ex (.var 32)] (.and (.and (.and (.need (.cmp .leq (.lit 0) (.var 28)) (.need (.cmp .leq (.var 28) (.var 30)) (.need (.cmp .leq (.var 30) (.len 29)) (.need (.cmp .leq (.len 29) (.var 30)) (.need (.cmp .leq (.var 28) (.lit 1000000)) (.app (some 29) (.var 28) (.var 34) (.and (.back 0 28 [.ex (.bin .add .i64 (.var 28) (.lit 1)), .var 35, .ex (.var 36), .var 33]) .ok))))))) .ok) .ok)
 (.and (.and (.and (.need (.cmp .leq (.lit 0) (.var 28)) (.need (.cmp .leq (.var 28) (.var 30)) (.need (.cmp .leq (.var 30) (.len 29)) (.need (.cmp .leq (.len 29) (.var 30)) (.need (.cmp .leq (.var 28) (.lit 1000000)) (.app (some 29) (.var 28) (.var 34) (.and (.back 0 28 [.ex (.bin .add .i64 (.var 28) (.lit 1)), .var 35, .ex (.var 36), .var 33]) .ok))))))) .ok) .ok) .ok))) .ok))) .ok))
 (.ret [.var 31, .ex (.var 18), .ex (.var 21), .ex (.var 24), .ex (.var 27), .var 29, .ex (.var 28), .ex (.var 30)]))
def tNodQ : Tree := (.br (.cmp .lss (.var 14) (.lit 0))
 (Tree.fail "result form")
 (.call 0 [.ex (.var 1), .ex (.var 2), .ex (.var 3), .ex (.var 4), .ex (.var 5), .ex (.var 6), .ex (.var 7), .ex (.var 8), .ex (.var 9), .ex (.var 10), .ex (.var 11), .ex (.var 12), .ex (.var 13), .ex (.var 14), .ex (.lit 0)] (.br (.cmp .lss (.var 15) (.lit 0))
 (Tree.fail "result form")
 (.and (.call 0 [.ex (.var 1), .ex (.var 2), .ex (.var 3), .ex (.var 4), .ex (.var 5), .ex (.var 6), .ex (.var 7), .ex (.var 8), .ex (.var 9), .ex (.var 10), .ex (.var 11), .ex (.var 12), .ex (.var 13), .ex (.var 14), .ex (.lit 0)] (.and (.call 2 [.var 0, .ex (.var 16)] (.and (.call 0 [.ex (.var 1), .ex (.var 2), .ex (.var 3), .ex (.var 4), .ex (.var 5), .ex (.var 6), .ex (.var 7), .ex (.var 8), .ex (.var 9), .ex (.var 10), .ex (.var 11), .ex (.var 12), .ex (.var 13), .ex (.var 14), .ex (.lit 1)] (.and (.call 2 [.var 17, .ex (.var 19)] (.and (.call 0 [.ex (.var 1), .ex (.var 2), .ex (.var 3), .ex (.var 4), .ex (.var 5), .ex (.var 6), .ex (.var 7), .ex (.var 8), .ex (.var 9), .ex (.var 10), .ex (.var 11), .ex (.var 12), .ex (.var 13), .ex (.var 14), .ex (.lit 2)] (.and (.call 2 [.var 20, .ex (.var 22)] (.and (.call 0 [.ex (.var 1), .ex (.var 2), .ex (.var 3), .ex (.var 4), .ex (.var 5), .ex (.var 6), .ex (.var 7), .ex (.var 8), .ex (.var 9), .ex (.var 10), .ex (.var 11), .ex (.var 12), .ex (.var 13), .ex (.var 14), .ex (.lit 3)] (.and (.call 2 [.var 23, .ex (.var 25)] (.and (.and (.ext (.lst []) (.loop 0 28 [.ex (.lit 0), .var 28, .ex (.lit 0), .var 26] tNodQL0)) .ok) .ok))
 (.and (.and (.call 2 [.var 23, .ex (.var 25)] (.and (.ext (.lst []) (.loop 0 28 [.ex (.lit 0), .var 28, .ex (.lit 0), .var 26] tNodQL0)) .ok)) .ok) .ok)))
 (.and (.and (.call 0 [.ex (.var 1), .ex (.var 2), .ex (.var 3), .ex (.var 4), .ex (.var 5), .ex (.var 6), .ex (.var 7), .ex (.var 8), .ex (.var 9), .ex (.var 10), .ex (.var 11), .ex (.var 12), .ex (.var 13), .ex (.var 14), .ex (.lit 3)] (.and (.call 2 [.var 23, .ex (.var 25)] (.and (.ext (.lst []) (.loop 0 28 [.ex (.lit 0), .var 28, .ex (.lit 0), .var 26] tNodQL0)) .ok)) .ok)) .ok) .ok)))
 (.and (.and (.call 2 [.var 20, .ex (.var 22)] (.and (.call 0 [.ex (.var 1), .ex (.var 2), .ex (.var 3), .ex (.var 4), .ex (.var 5), .ex (.var 6), .ex (.var 7), .ex (.var 8), .ex (.var 9), .ex (.var 10), .ex (.var 11), .ex (.var 12), .ex (.var 13), .ex (.var 14), .ex (.lit 3)] (.and (.call 2 [.var 23, .ex (.var 25)] (.and (.ext (.lst []) (.loop 0 28 [.ex (.lit 0), .var 28, .ex (.lit 0), .var 26] tNodQL0)) .ok)) .ok)) .ok)) .ok) .ok)))
 (.and (.and (.call 0 [.ex (.var 1), .ex (.var 2), .ex (.var 3), .ex (.var 4), .ex (.var 5), .ex (.var 6), .ex (.var 7), .ex (.var 8), .ex (.var 9), .ex (.var 10), .ex (.var 11), .ex (.var 12), .ex (.var 13), .ex (.var 14), .ex (.lit 2)] (.and (.call 2 [.var 20, .ex (.var 22)] (.and (.call 0 [.ex (.var 1), .ex (.var 2), .ex (.var 3), .ex (.var 4), .ex (.var 5), .ex (.var 6), .ex (.var 7), .ex (.var 8), .ex (.var 9), .ex (.var 10), .ex (.var 11), .ex (.var 12), .ex (.var 13), .ex (.var 14), .ex (.lit 3)] (.and (.call 2 [.var 23, .ex (.var 25)] (.and (.ext (.lst []) (.loop 0 28 [.ex (.lit 0), .var 28, .ex (.lit 0), .var 26] tNodQL0)) .ok)) .ok)) .ok)) .ok)) .ok) .ok)))
 (.and (.and (.call 2 [.var 17, .ex (.var 19)] (.and (.call 0 [.ex (.var 1), .ex (.var 2), .ex (.var 3), .ex (.var 4), .ex (.var 5), .ex (.var 6), .ex (.var 7), .ex (.var 8), .ex (.var 9), .ex (.var 10), .ex (.var 11), .ex (.var 12), .ex (.var 13), .ex (.var 14), .ex (.lit 2)] (.and (.call 2 [.var 20, .ex (.var 22)] (.and (.call 0 [.ex (.var 1), .ex (.var 2), .ex (.var 3), .ex (.var 4), .ex (.var 5), .ex (.var 6), .ex (.var 7), .ex (.var 8), .ex (.var 9), .ex (.var 10), .ex (.var 11), .ex (.var 12), .ex (.var 13), .ex (.var 14), .ex (.lit 3)] (.and (.call 2 [.var 23, .ex (.var 25)] (.and (.ext (.lst []) (.loop 0 28 [.ex (.lit 0), .var 28, .ex (.lit 0), .var 26] tNodQL0)) .ok)) .ok)) .ok)) .ok)) .ok)) .ok) .ok)))
 (.and (.and (.call 0 [.ex (.var 1), .ex (.var 2), .ex (.var 3), .ex (.var 4), .ex (.var 5), .ex (.var 6), .ex (.var 7), .ex (.var 8), .ex (.var 9), .ex (.var 10), .ex (.var 11), .ex (.var 12), .ex (.var 13), .ex (.var 14), .ex (.lit 1)] (.and (.call 2 [.var 17, .ex (.var 19)] (.and (.call 0 [.ex (.var 1), .ex (.var 2), .ex (.var 3), .ex (.var 4), .ex (.var 5), .ex (.var 6), .ex (.var 7), .ex (.var 8), .ex (.var 9), .ex (.var 10), .ex (.var 11), .ex (.var 12), .ex (.var 13), .ex (.var 14), .ex (.lit 2)] (.and (.call 2 [.var 20, .ex (.var 22)] (.and (.call 0 [.ex (.var 1), .ex (.var 2), .ex (.var 3), .ex (.var 4), .ex (.var 5), .ex (.var 6), .ex (.var 7), .ex (.var 8), .ex (.var 9), .ex (.var 10), .ex (.var 11), .ex (.var 12), .ex (.var 13), .ex (.var 14), .ex (.lit 3)] (.and (.call 2 [.var 23, .ex (.var 25)] (.and (.ext (.lst []) (.loop 0 28 [.ex (.lit 0), .var 28, .ex (.lit 0), .var 26] tNodQL0)) .ok)) .ok)) .ok)) .ok)) .ok)) .ok)) .ok) .ok)))
 (.and (.and (.call 2 [.var 0, .ex (.var 16)] (.and (.call 0 [.ex (.var 1), .ex (.var 2), .ex (.var 3), .ex (.var 4), .ex (.var 5), .ex (.var 6), .ex (.var 7), .ex (.var 8), .ex (.var 9), .ex (.var 10), .ex (.var 11), .ex (.var 12), .ex (.var 13), .ex (.var 14), .ex (.lit 1)] (.and (.call 2 [.var 17, .ex (.var 19)] (.and (.call 0 [.ex (.var 1), .ex (.var 2), .ex (.var 3), .ex (.var 4), .ex (.var 5), .ex (.var 6), .ex (.var 7), .ex (.var 8), .ex (.var 9), .ex (.var 10), .ex (.var 11), .ex (.var 12), .ex (.var 13), .ex (.var 14), .ex (.lit 2)] (.and (.call 2 [.var 20, .ex (.var 22)] (.and (.call 0 [.ex (.var 1), .ex (.var 2), .ex (.var 3), .ex (.var 4), .ex (.var 5), .ex (.var 6), .ex (.var 7), .ex (.var 8), .ex (.var 9), .ex (.var 10), .ex (.var 11), .ex (.var 12), .ex (.var 13), .ex (.var 14), .ex (.lit 3)] (.and (.call 2 [.var 23, .ex (.var 25)] (.and (.ext (.lst []) (.loop 0 28 [.ex (.lit 0), .var 28, .ex (.lit 0), .var 26] tNodQL0)) .ok)) .ok)) .ok)) .ok)) .ok)) .ok)) .ok)) .ok) .ok)))
 (.and (.and (.call 0 [.ex (.var 1), .ex (.var 2), .ex (.var 3), .ex (.var 4), .ex (.var 5), .ex (.var 6), .ex (.var 7), .ex (.var 8), .ex (.var 9), .ex (.var 10), .ex (.var 11), .ex (.var 12), .ex (.var 13), .ex (.var 14), .ex (.lit 0)] (.and (.call 2 [.var 0, .ex (.var 16)] (.and (.call 0 [.ex (.var 1), .ex (.var 2), .ex (.var 3), .ex (.var 4), .ex (.var 5), .ex (.var 6), .ex (.var 7), .ex (.var 8), .ex (.var 9), .ex (.var 10), .ex (.var 11), .ex (.var 12), .ex (.var 13), .ex (.var 14), .ex (.lit 1)] (.and (.call 2 [.var 17, .ex (.var 19)] (.and (.call 0 [.ex (.var 1), .ex (.var 2), .ex (.var 3), .ex (.var 4), .ex (.var 5), .ex (.var 6), .ex (.var 7), .ex (.var 8), .ex (.var 9), .ex (.var 10), .ex (.var 11), .ex (.var 12), .ex (.var 13), .ex (.var 14), .ex (.lit 2)] (.and (.call 2 [.var 20, .ex (.var 22)] (.and (.call 0 [.ex (.var 1), .ex (.var 2), .ex (.var 3), .ex (.var 4), .ex (.var 5), .ex (.var 6), .ex (.var 7), .ex (.var 8), .ex (.var 9), .ex (.var 10), .ex (.var 11), .ex (.var 12), .ex (.var 13), .ex (.var 14), .ex (.lit 3)] (.and (.call 2 [.var 23, .ex (.var 25)] (.and (.ext (.lst []) (.loop 0 28 [.ex (.lit 0), .var 28, .ex (.lit 0), .var 26] tNodQL0)) .ok)) .ok)) .ok)) .ok)) .ok)) .ok)) .ok)) .ok)) .ok) .ok)))))
theorem rNodQ : runCtr { (cxYcq Tryz.prog) with hints := hsNodQ } 20 cNodQ [] [] = tNodQ := by kernel_rfl

def hsNodP0 : List (Nat × Nat × List Nat) := []
def tNodP0L0 : Tree := (.br (.cmp .lss (.var 27) (.var 3))
 (.and (.and (.and (.call 1 [.ex (.var 1), .ex (.var 2), .ex (.var 3), .ex (.var 4), .ex (.var 5), .ex (.var 6), .ex (.var 7), .ex (.var 8), .ex (.var 9), .ex (.var 10), .ex (.var 11), .ex (.var 12), .ex (.var 13), .ex (.var 14), .ex (.bin .add .i64 (.lit 4) (.var 27))] (.and (.call 2 [.var 17, .ex (.var 18), .ex (.var 18), .ex (.var 30)] (.and (.and (.need (.cmp .leq (.lit 0) (.var 27)) (.need (.cmp .leq (.var 27) (.var 29)) (.need (.cmp .leq (.var 29) (.len 28)) (.need (.cmp .leq (.len 28) (.var 29)) (.need (.cmp .leq (.var 27) (.lit 1000000)) (.app (some 28) (.var 27) (.var 31) (.and (.back 0 27 [.ex (.bin .add .i64 (.var 27) (.lit 1)), .var 32, .ex (.var 33)]) .ok))))))) .ok) .ok)) .ok)) .ok) .ok)
 (.and (.and (.call 1 [.ex (.var 1), .ex (.var 2), .ex (.var 3), .ex (.var 4), .ex (.var 5), .ex (.var 6), .ex (.var 7), .ex (.var 8), .ex (.var 9), .ex (.var 10), .ex (.var 11), .ex (.var 12), .ex (.var 13), .ex (.var 14), .ex (.bin .add .i64 (.lit 4) (.var 27))] (.and (.call 2 [.var 17, .ex (.var 18), .ex (.var 18), .ex (.var 30)] (.and (.and (.and (.need (.cmp .leq (.lit 0) (.var 27)) (.need (.cmp .leq (.var 27) (.var 29)) (.need (.cmp .leq (.var 29) (.len 28)) (.need (.cmp .leq (.len 28) (.var 29)) (.need (.cmp .leq (.var 27) (.lit 1000000)) (.app (some 28) (.var 27) (.var 31) (.and (.back 0 27 [.ex (.bin .add .i64 (.var 27) (.lit 1)), .var 32, .ex (.var 33)]) .ok))))))) .ok) .ok)
 (.and (.and (.and (.need (.cmp .leq (.lit 0) (.var 27)) (.need (.cmp .leq (.var 27) (.var 29)) (.need (.cmp .leq (.var 29) (.len 28)) (.need (.cmp .leq (.len 28) (.var 29)) (.need (.cmp .leq (.var 27) (.lit 1000000)) (.app (some 28) (.var 27) (.var 31) (.and (.back 0 27 [.ex (.bin .add .i64 (.var 27) (.lit 1)), .var 32, .ex (.var 33)]) .ok))))))) .ok) .ok) .ok))) .ok)) .ok) .ok))
 (Tree.fail "result form"))
def tNodP0 : Tree := (.br (.cmp .lss (.var 14) (.lit 0))
 (.ret [.var 0])
 (.call 1 [.ex (.var 1), .ex (.var 2), .ex (.var 3), .ex (.var 4), .ex (.var 5), .ex (.var 6), .ex (.var 7), .ex (.var 8), .ex (.var 9), .ex (.var 10), .ex (.var 11), .ex (.var 12), .ex (.var 13), .ex (.var 14), .ex (.lit 0)] (.br (.cmp .lss (.var 15) (.lit 0))
 (.ret [.var 0])
 (.call 0 [.var 0] (.and (.call 1 [.ex (.var 1), .ex (.var 2), .ex (.var 3), .ex (.var 4), .ex (.var 5), .ex (.var 6), .ex (.var 7), .ex (.var 8), .ex (.var 9), .ex (.var 10), .ex (.var 11), .ex (.var 12), .ex (.var 13), .ex (.var 14), .ex (.lit 0)] (.and (.call 2 [.var 17, .ex (.var 18), .ex (.var 18), .ex (.var 19)] (.and (.call 1 [.ex (.var 1), .ex (.var 2), .ex (.var 3), .ex (.var 4), .ex (.var 5), .ex (.var 6), .ex (.var 7), .ex (.var 8), .ex (.var 9), .ex (.var 10), .ex (.var 11), .ex (.var 12), .ex (.var 13), .ex (.var 14), .ex (.lit 1)] (.and (.call 2 [.var 17, .ex (.var 18), .ex (.var 18), .ex (.var 21)] (.and (.call 1 [.ex (.var 1), .ex (.var 2), .ex (.var 3), .ex (.var 4), .ex (.var 5), .ex (.var 6), .ex (.var 7), .ex (.var 8), .ex (.var 9), .ex (.var 10), .ex (.var 11), .ex (.var 12), .ex (.var 13), .ex (.var 14), .ex (.lit 2)] (.and (.call 2 [.var 17, .ex (.var 18), .ex (.var 18), .ex (.var 23)] (.and (.call 1 [.ex (.var 1), .ex (.var 2), .ex (.var 3), .ex (.var 4), .ex (.var 5), .ex (.var 6), .ex (.var 7), .ex (.var 8), .ex (.var 9), .ex (.var 10), .ex (.var 11), .ex (.var 12), .ex (.var 13), .ex (.var 14), .ex (.lit 3)] (.and (.call 2 [.var 17, .ex (.var 18), .ex (.var 18), .ex (.var 25)] (.ext (.lst []) (.loop 0 27 [.ex (.lit 0), .var 27, .ex (.lit 0)] tNodP0L0))) .ok)) .ok)) .ok)) .ok)) .ok)) .ok)) .ok)) .ok)))))
theorem rNodP0 : runCtr { (cxYcp Tryz.prog) with hints := hsNodP0 } 20 cNodP0 [] [] = tNodP0 := by kernel_rfl

def hsNodQ0 : List (Nat × Nat × List Nat) := []
def tNodQ0L0 : Tree := (.br (.cmp .lss (.var 28) (.var 3))
 (.and (.and (.call 1 [.ex (.var 1), .ex (.var 2), .ex (.var 3), .ex (.var 4), .ex (.var 5), .ex (.var 6), .ex (.var 7), .ex (.var 8), .ex (.var 9), .ex (.var 10), .ex (.var 11), .ex (.var 12), .ex (.var 13), .ex (.var 14), .ex (.var 28)] (.and (.call 2 [.var 31, .ex (.var 32)] (.and (.and (.need (.cmp .leq (.lit 0) (.var 28)) (.need (.cmp .leq (.var 28) (.var 30)) (.need (.cmp .leq (.var 30) (.len 29)) (.need (.cmp .leq (.len 29) (.var 30)) (.need (.cmp .leq (.var 28) (.lit 1000000)) (.app (some 29) (.var 28) (.var 34) (.and (.back 0 28 [.ex (.bin .add .i64 (.var 28) (.lit 1)), .var 35, .ex (.var 36), .var 33]) .ok))))))) .ok) .ok)) .ok)) .ok)
 (.and (.call 1 [.ex (.var 1), .ex (.var 2), .ex (.var 3), .ex (.var 4), .ex (.var 5), .ex (.var 6), .ex (.var 7), .ex (.var 8), .ex (.var 9), .ex (.var 10), .ex (.var 11), .ex (.var 12), .ex (.var 13), .ex (.var 14), .ex (.var 28)] (.and (.and (.call 2 [.var 31, .ex (.var 32)] (.and (.and (.need (.cmp .leq (.lit 0) (.var 28)) (.need (.cmp .leq (.var 28) (.var 30)) (.need (.cmp .leq (.var 30) (.len 29)) (.need (.cmp .leq (.len 29) (.var 30)) (.need (.cmp .leq (.var 28) (.lit 1000000)) (.app (some 29) (.var 28) (.var 34) (.and (.back 0 28 [.ex (.bin .add .i64 (.var 28) (.lit 1)), .var 35, .ex (.var 36), .var 33]) .ok))))))) .ok) .ok)) .ok)
 (.and (.call 2 [.var 31, .ex (.var 32)] (.and (.and (.and (.need (.cmp .leq (.lit 0) (.var 28)) (.need (.cmp .leq (.var 28) (.var 30)) (.need (.cmp .leq (.var 30) (.len 29)) (.need (.cmp .leq (.len 29) (.var 30)) (.need (.cmp .leq (.var 28) (.lit 1000000)) (.app (some 29) (.var 28) (.var 34) (.and (.back 0 28 [.ex (.bin .add .i64 (.var 28) (.lit 1)), .var 35, .ex (.var 36), .var 33]) .ok))))))) .ok) .ok)
 (.and (.and (.and (.need (.cmp .leq (.lit 0) (.var 28)) (.need (.cmp .leq (.var 28) (.var 30)) (.need (.cmp .leq (.var 30) (.len 29)) (.need (.cmp .leq (.len 29) (.var 30)) (.need (.cmp .leq (.var 28) (.lit 1000000)) (.app (some 29) (.var 28) (.var 34) (.and (.back 0 28 [.ex (.bin .add .i64 (.var 28) (.lit 1)), .var 35, .ex (.var 36), .var 33]) .ok))))))) .ok) .ok) .ok))) .ok))) .ok))
 (Tree.fail "result form"))
def tNodQ0 : Tree := (.br (.cmp .lss (.var 14) (.lit 0))
 (.ret [.var 0])
 (.call 0 [.ex (.var 1), .ex (.var 2), .ex (.var 3), .ex (.var 4), .ex (.var 5), .ex (.var 6), .ex (.var 7), .ex (.var 8), .ex (.var 9), .ex (.var 10), .ex (.var 11), .ex (.var 12), .ex (.var 13), .ex (.var 14), .ex (.lit 0)] (.br (.cmp .lss (.var 15) (.lit 0))
 (.ret [.var 0])
 (.and (.call 0 [.ex (.var 1), .ex (.var 2), .ex (.var 3), .ex (.var 4), .ex (.var 5), .ex (.var 6), .ex (.var 7), .ex (.var 8), .ex (.var 9), .ex (.var 10), .ex (.var 11), .ex (.var 12), .ex (.var 13), .ex (.var 14), .ex (.lit 0)] (.and (.call 2 [.var 0, .ex (.var 16)] (.and (.call 0 [.ex (.var 1), .ex (.var 2), .ex (.var 3), .ex (.var 4), .ex (.var 5), .ex (.var 6), .ex (.var 7), .ex (.var 8), .ex (.var 9), .ex (.var 10), .ex (.var 11), .ex (.var 12), .ex (.var 13), .ex (.var 14), .ex (.lit 1)] (.and (.call 2 [.var 17, .ex (.var 19)] (.and (.call 0 [.ex (.var 1), .ex (.var 2), .ex (.var 3), .ex (.var 4), .ex (.var 5), .ex (.var 6), .ex (.var 7), .ex (.var 8), .ex (.var 9), .ex (.var 10), .ex (.var 11), .ex (.var 12), .ex (.var 13), .ex (.var 14), .ex (.lit 2)] (.and (.call 2 [.var 20, .ex (.var 22)] (.and (.call 0 [.ex (.var 1), .ex (.var 2), .ex (.var 3), .ex (.var 4), .ex (.var 5), .ex (.var 6), .ex (.var 7), .ex (.var 8), .ex (.var 9), .ex (.var 10), .ex (.var 11), .ex (.var 12), .ex (.var 13), .ex (.var 14), .ex (.lit 3)] (.and (.call 2 [.var 23, .ex (.var 25)] (.and (.and (.ext (.lst []) (.loop 0 28 [.ex (.lit 0), .var 28, .ex (.lit 0), .var 26] tNodQ0L0)) .ok) .ok))
 (.and (.and (.call 2 [.var 23, .ex (.var 25)] (.and (.ext (.lst []) (.loop 0 28 [.ex (.lit 0), .var 28, .ex (.lit 0), .var 26] tNodQ0L0)) .ok)) .ok) .ok)))
 (.and (.and (.call 0 [.ex (.var 1), .ex (.var 2), .ex (.var 3), .ex (.var 4), .ex (.var 5), .ex (.var 6), .ex (.var 7), .ex (.var 8), .ex (.var 9), .ex (.var 10), .ex (.var 11), .ex (.var 12), .ex (.var 13), .ex (.var 14), .ex (.lit 3)] (.and (.call 2 [.var 23, .ex (.var 25)] (.and (.ext (.lst []) (.loop 0 28 [.ex (.lit 0), .var 28, .ex (.lit 0), .var 26] tNodQ0L0)) .ok)) .ok)) .ok) .ok)))
 (.and (.and (.call 2 [.var 20, .ex (.var 22)] (.and (.call 0 [.ex (.var 1), .ex (.var 2), .ex (.var 3), .ex (.var 4), .ex (.var 5), .ex (.var 6), .ex (.var 7), .ex (.var 8), .ex (.var 9), .ex (.var 10), .ex (.var 11), .ex (.var 12), .ex (.var 13), .ex (.var 14), .ex (.lit 3)] (.and (.call 2 [.var 23, .ex (.var 25)] (.and (.ext (.lst []) (.loop 0 28 [.ex (.lit 0), .var 28, .ex (.lit 0), .var 26] tNodQ0L0)) .ok)) .ok)) .ok)) .ok) .ok)))
 (.and (.and (.call 0 [.ex (.var 1), .ex (.var 2), .ex (.var 3), .ex (.var 4), .ex (.var 5), .ex (.var 6), .ex (.var 7), .ex (.var 8), .ex (.var 9), .ex (.var 10), .ex (.var 11), .ex (.var 12), .ex (.var 13), .ex (.var 14), .ex (.lit 2)] (.and (.call 2 [.var 20, .ex (.var 22)] (.and (.call 0 [.ex (.var 1), .ex (.var 2), .ex (.var 3), .ex (.var 4), .ex (.var 5), .ex (.var 6), .ex (.var 7), .ex (.var 8), .ex (.var 9), .ex (.var 10), .ex (.var 11), .ex (.var 12), .ex (.var 13), .ex (.var 14), .ex (.lit 3)] (.and (.call 2 [.var 23, .ex (.var 25)] (.and (.ext (.lst []) (.loop 0 28 [.ex (.lit 0), .var 28, .ex (.lit 0), .var 26] tNodQ0L0)) .ok)) .ok)) .ok)) .ok)) .ok) .ok)))
 (.and (.and (.call 2 [.var 17, .ex (.var 19)] (.and (.call 0 [.ex (.var 1), .ex (.var 2), .ex (.var 3), .ex (.var 4), .ex (.var 5), .ex (.var 6), .ex (.var 7), .ex (.var 8), .ex (.var 9), .ex (.var 10), .ex (.var 11), .ex (.var 12), .ex (.var 13), .ex (.var 14), .ex (.lit 2)] (.and (.call 2 [.var 20, .ex (.var 22)] (.and (.call 0 [.ex (.var 1), .ex (.var 2), .ex (.var 3), .ex (.var 4), .ex (.var 5), .ex (.var 6), .ex (.var 7), .ex (.var 8), .ex (.var 9), .ex (.var 10), .ex (.var 11), .ex (.var 12), .ex (.var 13), .ex (.var 14), .ex (.lit 3)] (.and (.call 2 [.var 23, .ex (.var 25)] (.and (.ext (.lst []) (.loop 0 28 [.ex (.lit 0), .var 28, .ex (.lit 0), .var 26] tNodQ0L0)) .ok)) .ok)) .ok)) .ok)) .ok)) .ok) .ok)))
 (.and (.and (.call 0 [.ex (.var 1), .ex (.var 2), .ex (.var 3), .ex (.var 4), .ex (.var 5), .ex (.var 6), .ex (.var 7), .ex (.var 8), .ex (.var 9), .ex (.var 10), .ex (.var 11), .ex (.var 12), .ex (.var 13), .ex (.var 14), .ex (.lit 1)] (.and (.call 2 [.var 17, .ex (.var 19)] (.and (.call 0 [.ex (.var 1), .ex (.var 2), .ex (.var 3), .ex (.var 4), .ex (.var 5), .ex (.var 6), .ex (.var 7), .ex (.var 8), .ex (.var 9), .ex (.var 10), .ex (.var 11), .ex (.var 12), .ex (.var 13), .ex (.var 14), .ex (.lit 2)] (.and (.call 2 [.var 20, .ex (.var 22)] (.and (.call 0 [.ex (.var 1), .ex (.var 2), .ex (.var 3), .ex (.var 4), .ex (.var 5), .ex (.var 6), .ex (.var 7), .ex (.var 8), .ex (.var 9), .ex (.var 10), .ex (.var 11), .ex (.var 12), .ex (.var 13), .ex (.var 14), .ex (.lit 3)] (.and (.call 2 [.var 23, .ex (.var 25)] (.and (.ext (.lst []) (.loop 0 28 [.ex (.lit 0), .var 28, .ex (.lit 0), .var 26] tNodQ0L0)) .ok)) .ok)) .ok)) .ok)) .ok)) .ok)) .ok) .ok)))
 (.and (.and (.call 2 [.var 0, .ex (.var 16)] (.and (.call 0 [.ex (.var 1), .ex (.var 2), .ex (.var 3), .ex (.var 4), .ex (.var 5), .ex (.var 6), .ex (.var 7), .ex (.var 8), .ex (.var 9), .ex (.var 10), .ex (.var 11), .ex (.var 12), .ex (.var 13), .ex (.var 14), .ex (.lit 1)] (.and (.call 2 [.var 17, .ex (.var 19)] (.and (.call 0 [.ex (.var 1), .ex (.var 2), .ex (.var 3), .ex (.var 4), .ex (.var 5), .ex (.var 6), .ex (.var 7), .ex (.var 8), .ex (.var 9), .ex (.var 10), .ex (.var 11), .ex (.var 12), .ex (.var 13), .ex (.var 14), .ex (.lit 2)] (.and (.call 2 [.var 20, .ex (.var 22)] (.and (.call 0 [.ex (.var 1), .ex (.var 2), .ex (.var 3), .ex (.var 4), .ex (.var 5), .ex (.var 6), .ex (.var 7), .ex (.var 8), .ex (.var 9), .ex (.var 10), .ex (.var 11), .ex (.var 12), .ex (.var 13), .ex (.var 14), .ex (.lit 3)] (.and (.call 2 [.var 23, .ex (.var 25)] (.and (.ext (.lst []) (.loop 0 28 [.ex (.lit 0), .var 28, .ex (.lit 0), .var 26] tNodQ0L0)) .ok)) .ok)) .ok)) .ok)) .ok)) .ok)) .ok)) .ok) .ok)))
 (.and (.and (.call 0 [.ex (.var 1), .ex (.var 2), .ex (.var 3), .ex (.var 4), .ex (.var 5), .ex (.var 6), .ex (.var 7), .ex (.var 8), .ex (.var 9), .ex (.var 10), .ex (.var 11), .ex (.var 12), .ex (.var 13), .ex (.var 14), .ex (.lit 0)] (.and (.call 2 [.var 0, .ex (.var 16)] (.and (.call 0 [.ex (.var 1), .ex (.var 2), .ex (.var 3), .ex (.var 4), .ex (.var 5), .ex (.var 6), .ex (.var 7), .ex (.var 8), .ex (.var 9), .ex (.var 10), .ex (.var 11), .ex (.var 12), .ex (.var 13), .ex (.var 14), .ex (.lit 1)] (.and (.call 2 [.var 17, .ex (.var 19)] (.and (.call 0 [.ex (.var 1), .ex (.var 2), .ex (.var 3), .ex (.var 4), .ex (.var 5), .ex (.var 6), .ex (.var 7), .ex (.var 8), .ex (.var 9), .ex (.var 10), .ex (.var 11), .ex (.var 12), .ex (.var 13), .ex (.var 14), .ex (.lit 2)] (.and (.call 2 [.var 20, .ex (.var 22)] (.and (.call 0 [.ex (.var 1), .ex (.var 2), .ex (.var 3), .ex (.var 4), .ex (.var 5), .ex (.var 6), .ex (.var 7), .ex (.var 8), .ex (.var 9), .ex (.var 10), .ex (.var 11), .ex (.var 12), .ex (.var 13), .ex (.var 14), .ex (.lit 3)] (.and (.call 2 [.var 23, .ex (.var 25)] (.and (.ext (.lst []) (.loop 0 28 [.ex (.lit 0), .var 28, .ex (.lit 0), .var 26] tNodQ0L0)) .ok)) .ok)) .ok)) .ok)) .ok)) .ok)) .ok)) .ok)) .ok) .ok)))))
theorem rNodQ0 : runCtr { (cxYcq Tryz.prog) with hints := hsNodQ0 } 20 cNodQ0 [] [] = tNodQ0 := by kernel_rfl

def hsSeenA : List (Nat × Nat × List Nat) := []
def tSeenA : Tree := (.callm 8 [.var 0, .ex (.var 2), .ex (.var 3), .ex (.var 4), .ex (.var 5), .ex (.var 6), .ex (.var 7), .ex (.var 8), .ex (.var 9), .ex (.var 10), .ex (.var 11), .ex (.var 12), .ex (.var 13), .ex (.var 14), .ex (.var 15)] (.callm 9 [.var 1, .ex (.var 2), .ex (.var 3), .ex (.var 4), .ex (.var 5), .ex (.var 6), .ex (.var 7), .ex (.var 8), .ex (.var 9), .ex (.var 10), .ex (.var 11), .ex (.var 12), .ex (.var 13), .ex (.var 14), .ex (.var 15)] (.and (.callm 0 [.var 17, .ex (.var 2), .ex (.var 3), .ex (.var 4), .ex (.var 5), .ex (.var 6), .ex (.var 7), .ex (.var 8), .ex (.var 9), .ex (.var 10), .ex (.var 11), .ex (.var 12), .ex (.var 13), .ex (.var 14), .ex (.var 16)] (.and (.callm 1 [.var 33, .ex (.var 2), .ex (.var 3), .ex (.var 4), .ex (.var 5), .ex (.var 6), .ex (.var 7), .ex (.var 8), .ex (.var 9), .ex (.var 10), .ex (.var 11), .ex (.var 12), .ex (.var 13), .ex (.var 14)] (.br (.cmp .eql (.var 18) (.var 26))
 (.br (.cmp .eql (.var 19) (.var 27))
 (.br (.cmp .eql (.var 20) (.var 28))
 (.br (.cmp .eql (.var 21) (.var 29))
 (.call 4 [.var 22, .var 30, .ex (.var 23), .ex (.var 24), .ex (.var 31), .ex (.var 32)] (.br (.var 41)
 (.callm 2 [.var 25, .ex (.var 2), .ex (.var 3), .ex (.var 4), .ex (.var 5), .ex (.var 6), .ex (.var 7), .ex (.var 8), .ex (.var 9), .ex (.var 10), .ex (.var 11), .ex (.var 12), .ex (.var 13), .ex (.var 14), .ex (.var 16)] (.call 5 [.var 34, .var 43, .ex (.var 35), .ex (.var 36), .ex (.var 44), .ex (.var 45)] (.br (.var 46)
 (.callm 3 [.var 42, .ex (.var 2), .ex (.var 3), .ex (.var 4), .ex (.var 5), .ex (.var 6), .ex (.var 7), .ex (.var 8), .ex (.var 9), .ex (.var 10), .ex (.var 11), .ex (.var 12), .ex (.var 13), .ex (.var 14)] (.call 5 [.var 38, .var 48, .ex (.var 39), .ex (.var 40), .ex (.var 49), .ex (.var 50)] (.call 6 [.var 22, .ex (.var 23), .ex (.var 24)] (.call 7 [.var 34, .ex (.var 35), .ex (.var 36)] (.call 7 [.var 38, .ex (.var 39), .ex (.var 40)] (.br (.var 51)
 (.and (.callm 0 [.var 37, .ex (.var 2), .ex (.var 3), .ex (.var 4), .ex (.var 5), .ex (.var 6), .ex (.var 7), .ex (.var 8), .ex (.var 9), .ex (.var 10), .ex (.var 11), .ex (.var 12), .ex (.var 13), .ex (.var 14), .ex (.var 16)] (.and (.callm 2 [.var 47, .ex (.var 2), .ex (.var 3), .ex (.var 4), .ex (.var 5), .ex (.var 6), .ex (.var 7), .ex (.var 8), .ex (.var 9), .ex (.var 10), .ex (.var 11), .ex (.var 12), .ex (.var 13), .ex (.var 14), .ex (.var 16)] (.and (.call 5 [.var 56, .var 60, .ex (.var 57), .ex (.var 58), .ex (.var 61), .ex (.var 62)] (.ret [.var 55, .var 59, .bx (.var 63)])) .ok)) .ok)) .ok)
 (.ret [.var 37, .var 47, .bx (.lit false)])))))))
 (.call 6 [.var 22, .ex (.var 23), .ex (.var 24)] (.call 7 [.var 34, .ex (.var 35), .ex (.var 36)] (.call 7 [.var 38, .ex (.var 39), .ex (.var 40)] (.ret [.var 37, .var 42, .bx (.lit false)])))))))
 (.call 6 [.var 22, .ex (.var 23), .ex (.var 24)] (.call 7 [.var 34, .ex (.var 35), .ex (.var 36)] (.call 7 [.var 38, .ex (.var 39), .ex (.var 40)] (.ret [.var 37, .var 25, .bx (.lit false)]))))))
 (.call 6 [.var 22, .ex (.var 23), .ex (.var 24)] (.call 7 [.var 34, .ex (.var 35), .ex (.var 36)] (.call 7 [.var 38, .ex (.var 39), .ex (.var 40)] (.ret [.var 37, .var 25, .bx (.lit false)])))))
 (.call 6 [.var 22, .ex (.var 23), .ex (.var 24)] (.call 7 [.var 34, .ex (.var 35), .ex (.var 36)] (.call 7 [.var 38, .ex (.var 39), .ex (.var 40)] (.ret [.var 37, .var 25, .bx (.lit false)])))))
 (.call 6 [.var 22, .ex (.var 23), .ex (.var 24)] (.call 7 [.var 34, .ex (.var 35), .ex (.var 36)] (.call 7 [.var 38, .ex (.var 39), .ex (.var 40)] (.ret [.var 37, .var 25, .bx (.lit false)])))))
 (.call 6 [.var 22, .ex (.var 23), .ex (.var 24)] (.call 7 [.var 34, .ex (.var 35), .ex (.var 36)] (.call 7 [.var 38, .ex (.var 39), .ex (.var 40)] (.ret [.var 37, .var 25, .bx (.lit false)])))))) .ok)) .ok)))
theorem rSeenA : runCtr { (cxYcA Tryz.prog) with hints := hsSeenA } 20 cSeenA [] [] = tSeenA := by kernel_rfl

def hsSeenB : List (Nat × Nat × List Nat) := []
def tSeenB : Tree := (.call 8 [.var 0, .ex (.var 2), .ex (.var 3), .ex (.var 4), .ex (.var 5), .ex (.var 6), .ex (.var 7), .ex (.var 8), .ex (.var 9), .ex (.var 10), .ex (.var 11), .ex (.var 12), .ex (.var 13), .ex (.var 14), .ex (.var 15)] (.call 9 [.var 1, .ex (.var 2), .ex (.var 3), .ex (.var 4), .ex (.var 5), .ex (.var 6), .ex (.var 7), .ex (.var 8), .ex (.var 9), .ex (.var 10), .ex (.var 11), .ex (.var 12), .ex (.var 13), .ex (.var 14), .ex (.var 15)] (.and (.callm 0 [.var 17, .ex (.var 2), .ex (.var 3), .ex (.var 4), .ex (.var 5), .ex (.var 6), .ex (.var 7), .ex (.var 8), .ex (.var 9), .ex (.var 10), .ex (.var 11), .ex (.var 12), .ex (.var 13), .ex (.var 14), .ex (.var 16)] (.and (.callm 1 [.var 19, .ex (.var 2), .ex (.var 3), .ex (.var 4), .ex (.var 5), .ex (.var 6), .ex (.var 7), .ex (.var 8), .ex (.var 9), .ex (.var 10), .ex (.var 11), .ex (.var 12), .ex (.var 13), .ex (.var 14)] (.callm 2 [.var 18, .ex (.var 2), .ex (.var 3), .ex (.var 4), .ex (.var 5), .ex (.var 6), .ex (.var 7), .ex (.var 8), .ex (.var 9), .ex (.var 10), .ex (.var 11), .ex (.var 12), .ex (.var 13), .ex (.var 14), .ex (.var 16)] (.call 5 [.var 20, .var 28, .ex (.var 21), .ex (.var 22), .ex (.var 29), .ex (.var 30)] (.br (.var 31)
 (.callm 3 [.var 27, .ex (.var 2), .ex (.var 3), .ex (.var 4), .ex (.var 5), .ex (.var 6), .ex (.var 7), .ex (.var 8), .ex (.var 9), .ex (.var 10), .ex (.var 11), .ex (.var 12), .ex (.var 13), .ex (.var 14)] (.call 5 [.var 24, .var 33, .ex (.var 25), .ex (.var 26), .ex (.var 34), .ex (.var 35)] (.call 7 [.var 20, .ex (.var 21), .ex (.var 22)] (.call 7 [.var 24, .ex (.var 25), .ex (.var 26)] (.br (.var 36)
 (.and (.callm 0 [.var 23, .ex (.var 2), .ex (.var 3), .ex (.var 4), .ex (.var 5), .ex (.var 6), .ex (.var 7), .ex (.var 8), .ex (.var 9), .ex (.var 10), .ex (.var 11), .ex (.var 12), .ex (.var 13), .ex (.var 14), .ex (.var 16)] (.and (.callm 2 [.var 32, .ex (.var 2), .ex (.var 3), .ex (.var 4), .ex (.var 5), .ex (.var 6), .ex (.var 7), .ex (.var 8), .ex (.var 9), .ex (.var 10), .ex (.var 11), .ex (.var 12), .ex (.var 13), .ex (.var 14), .ex (.var 16)] (.and (.call 5 [.var 40, .var 44, .ex (.var 41), .ex (.var 42), .ex (.var 45), .ex (.var 46)] (.ret [.var 39, .var 43, .bx (.var 47)])) .ok)) .ok)) .ok)
 (.ret [.var 23, .var 32, .bx (.lit false)]))))))
 (.call 7 [.var 20, .ex (.var 21), .ex (.var 22)] (.call 7 [.var 24, .ex (.var 25), .ex (.var 26)] (.ret [.var 23, .var 27, .bx (.lit false)]))))))) .ok)) .ok)))
theorem rSeenB : runCtr { (cxYcB Tryz.prog) with hints := hsSeenB } 20 cSeenB [] [] = tSeenB := by kernel_rfl

end Go.Proofs.YtbmbiiiacajolaaGreat
/- What is told of a tower: the contracts hold (printed by gen_yc.py). -/
namespace Go.Proofs.YtbmbiiiacajolaaGreat
set_option linter.unusedVariables false
set_option linter.unusedSimpArgs false
set_option linter.unusedSectionVars false
open Go Go.RowKit

theorem owStep {xs : List Int} {i : Nat} (h : i < xs.length) : (List.replicate i (7777777 : Int) ++ xs.drop i).set i 7777777 = List.replicate (i + 1) 7777777 ++ xs.drop (i + 1) := by
  rw [List.set_append_right _ _ (by simp), List.length_replicate, Nat.sub_self, List.drop_eq_getElem_cons h, List.set_cons_zero, List.replicate_succ', List.append_assoc]; rfl
theorem owEnd {xs : List Int} {n : Nat} : (List.replicate n (7777777 : Int) ++ xs.drop n).length = n + (xs.length - n) := by simp
set_option maxHeartbeats 1000000 in
theorem vOverWords (P : Program) (hs : List (Nat × Nat × List Nat)) : ∀ ins, ins.length = cOverWords.nin → cOverWords.pre ins → tOverWords.sat { cxEO P [lOverWords] with hints := hs } (ctrR cOverWords) ins := by
  have hb : ∀ env, overWInv env → tOverWordsL0.sat { cxEO P [lOverWords] with hints := hs } (ctrR cOverWords) env := by
    rintro env ⟨xs, a, c, i, rfl, h1, h2, h3, h4⟩
    have hl : (List.replicate i.toNat (7777777 : Int) ++ xs.drop i.toNat).length = xs.length := by rw [owEnd]; omega
    have hst : ∀ h : i < a, (List.replicate i.toNat (7777777 : Int) ++ xs.drop i.toNat).set i.toNat 7777777 = List.replicate (i + 1).toNat 7777777 ++ xs.drop (i + 1).toNat := fun h => by
      rw [owStep (by omega), show (i + 1).toNat = i.toNat + 1 by omega]
    simp only [Tree.sat, Bx.den, Ex.den, Bnd.den, gI, gB, gL, gF, gN, gNil, List.map_cons, List.map_nil, List.cons_append, List.nil_append, List.getElem?_cons_zero, List.getElem?_cons_succ, List.getD, Option.getD_some, cmp_eql_t, cmp_eql_f, cmp_neq_t, cmp_neq_f, cmp_lss_t, cmp_lss_f, cmp_leq_t, cmp_leq_f, cmp_gtr_t, cmp_gtr_f, cmp_geq_t, cmp_geq_f, Bool.not_eq_true', Bool.not_eq_false', Bool.and_eq_true, Bool.and_eq_false_iff, binDen, ctrR, Ctr.may, List.take_succ_cons, List.take_zero, Option.some.injEq, EV.u.injEq, tOverWordsL0, cxEO, lOverWords, cx, cOverWords, hl, true_and, and_true, ne_eq, not_true_eq_false, not_false_eq_true, false_implies, true_implies, implies_true, List.append_assoc]
    repeat' (first | with_reducible apply And.intro | intro _)
    all_goals first
      | omega
      | (rw [wrap_small (n := i + 1) (by omega) (by omega), hst (by omega)]; exact ⟨xs, a, c, i + 1, rfl, by omega, by omega, h3, h4⟩)
      | (rw [wrap_small (n := i + 1) (by omega) (by omega)]; show (a - (i + 1)).toNat < (a - i).toNat; omega)
      | (have : i = a := by omega
         subst this; rfl)
  rintro ins _ ⟨xs, a, c, rfl, p1, p2, p3⟩
  simp only [Tree.sat, Bx.den, Ex.den, Bnd.den, gI, gB, gL, gF, gN, gNil, List.map_cons, List.map_nil, List.cons_append, List.nil_append, List.getElem?_cons_zero, List.getElem?_cons_succ, List.getD, Option.getD_some, cmp_eql_t, cmp_eql_f, cmp_neq_t, cmp_neq_f, cmp_lss_t, cmp_lss_f, cmp_leq_t, cmp_leq_f, cmp_gtr_t, cmp_gtr_f, cmp_geq_t, cmp_geq_f, Bool.not_eq_true', Bool.not_eq_false', Bool.and_eq_true, Bool.and_eq_false_iff, binDen, ctrR, Ctr.may, List.take_succ_cons, List.take_zero, Option.some.injEq, EV.u.injEq, tOverWords, cxEO, lOverWords, cx, cOverWords, true_and, and_true, ne_eq, not_true_eq_false, not_false_eq_true, false_implies, true_implies, implies_true, List.append_assoc]
  repeat' (first | with_reducible apply And.intro | intro _)
  all_goals first
    | omega
    | exact hb _ (by assumption)
    | exact ⟨xs, a, c, 0, rfl, by omega, by omega, by omega, by omega⟩
theorem hOverWords : cOverWords.Holds objs Tryz.prog := runCtr_holds (X := { cxEO Tryz.prog [lOverWords] with hints := hsOverWords }) objsOk mixed noCts (callable _ Tryz.func80 (by kernel_rfl) (by kernel_rfl)) (by rintro ins _ ⟨xs, a, c, rfl, _⟩; rfl) (by rw [rOverWords]; exact vOverWords _ _)

theorem at_node {n h a s i p : Int} (e : okT n h a s = true) (h0 : 0 ≤ i) (h1 : i < s) (h2 : 0 ≤ p) (h3 : p < 4 + a) : 0 ≤ atT n h a s i p := by
  have g := okT_a e
  unfold atT
  rw [if_pos ⟨e, by omega, h1, h2, h3, .inl h0⟩, if_neg (by omega)]
  have : 0 ≤ i * (4 + a) := Int.mul_nonneg h0 (by omega)
  omega
theorem at_none {n h a s i : Int} (e : i < 0 ∨ s ≤ i) : atT n h a s i 0 = -1 := by
  unfold atT
  rw [if_neg (by omega)]
theorem next_at {n h a s i k : Int} (h0 : 0 ≤ k) (h1 : k < 4) : nextT n h a s i k = atT n h a s i (4 + k) := by unfold nextT; rw [if_neg (by omega)]
theorem nex_len (M : MemSt) (n h a s i : Int) : ∀ m, (nexK M n h a s i m).length = m
  | 0 => rfl
  | m + 1 => by rw [nexK, List.length_append, nex_len]; rfl
theorem nex_next {M : MemSt} {n h a s i k w : Int} {xs r : List Int} (h1 : 0 ≤ k) (h4 : k.toNat ≤ xs.length) (h5 : xs.take k.toNat = nexK M n h a s i k.toNat) (hw : w = nodW M n h a s i (4 + k)) : (xs.take k.toNat ++ w :: r).take (k + 1).toNat = nexK M n h a s i (k + 1).toNat := by
  rw [toNat_succ h1, take_app h5 h4, nexK, hw, show ((k.toNat : Nat) : Int) = k by omega]
theorem nod_end {M : MemSt} {n h a s i k c : Int} {xs : List Int} (h0 : 0 ≤ a) (hk : k = a) (h3 : c = xs.length) (h4 : k ≤ c) (h5 : xs.take k.toNat = nexK M n h a s i k.toNat) (x : EV U) :
    ∃ cc, [x, .i (nodW M n h a s i 0), .i (nodW M n h a s i 1), .i (nodW M n h a s i 2), .i (nodW M n h a s i 3), .l xs, .i k, .i c] = nodOut x M n h a s i cc := by
  subst hk
  obtain ⟨rr, hr⟩ := split_at h5
  refine ⟨rr, ?_⟩
  have hx : xs.length = k.toNat + rr.length := by rw [hr, List.length_append, nex_len]
  unfold nodOut
  rw [← hr, h3, hx]
theorem hctsYcp : ∀ (ci : Nat) (c : Ctr U), ctsYcp[ci]? = some c → c.Holds objs Tryz.prog := by
  intro ci c h
  match ci, h with
  | 0, h => cases h; exact hWords
  | 1, h => cases h; exact hAt
  | 2, h => cases h; exact hMemAt
  | n + 3, h => cases h
theorem hctsYcq : ∀ (ci : Nat) (c : Ctr U), ctsYcq[ci]? = some c → c.Holds objs Tryz.prog := by
  intro ci c h
  match ci, h with
  | 0, h => cases h; exact hRAt
  | 1, h => cases h; exact hNextQ
  | 2, h => cases h; exact hQAt
  | n + 3, h => cases h
set_option maxHeartbeats 8000000 in
theorem vNodP (P : Program) (hs : List (Nat × Nat × List Nat)) : ∀ ins, ins.length = cNodP.nin → cNodP.pre ins → tNodP.sat { cxYcp P with hints := hs } (ctrR cNodP) ins := by
  have hb : ∀ env, nodInv env → tNodPL0.sat { cxYcp P with hints := hs } (ctrR cNodP) env := by
    rintro env ⟨M, a0, a1, a2, a3, a4, a5, a6, a7, a8, a9, a10, a11, a12, i, x15, x19, x21, x23, x25, k, xs, c, rfl, hM, ht, hi0, hi1, h1, h2, h3, h4, h5⟩
    have ha := okT_a ht
    have e0 : k < a2 → IntKind.i64.wrap (4 + k) = 4 + k := fun g => wrap_small (by omega) (by omega)
    unfold tNodPL0
    repeat' (first
      | (first
        | (with_reducible refine st_need ?_ ?_
           focus (simp only [dn, reduceCtorEq, hM, e0] <;> first | omega | assumption))
        | (with_reducible refine st_and ?_ ?_)
        | (with_reducible exact st_ok)
        | (with_reducible refine st_br (fun hc => ?_) (fun hc => ?_) <;> (simp only [dn, reduceCtorEq, hM, e0] at hc) <;> (try (exfalso; first | contradiction | omega)))
        | (refine st_call (by rfl) (by simp only [dn, reduceCtorEq, hM, e0] <;> rfl) ?_ (by simp only [out_words, out_memAt, out_atP] <;> rfl) (by simp only [dn] <;> rfl) ?_
           focus (first | exact ⟨_, rfl⟩ | exact ⟨_, _, _, rfl, hM.1⟩ | exact ⟨_, _, _, _, _, _, _, _, _, _, _, _, _, _, _, rfl⟩)))
      | (refine st_app (by rfl) (by simp only [dn, reduceCtorEq, hM] <;> rfl) (by simp only [dn, reduceCtorEq, hM] <;> rfl) (fun rr env' he => ?_)
         simp only [List.cons_append, List.nil_append] at he
         subst he)
      | (refine st_rng (fun LL env' he => ?_)
         simp only [List.cons_append, List.nil_append] at he
         subst he)
      | (refine st_lst (by simp only [List.map_cons, List.map_nil, List.cons_append, List.nil_append] <;> rfl) ?_)
      | (refine st_back (by rfl) (by simp only [dn, reduceCtorEq, hM] <;> rfl) (by simp only [dn] <;> rfl) (by rfl) ?_ ?_
         focus (rw [wrap_small (n := k + 1) (by omega) (by omega)]
                (try rw [e0 (by omega)])
                refine ⟨M, a0, a1, a2, a3, a4, a5, a6, a7, a8, a9, a10, a11, a12, i, _, _, _, _, _, k + 1, _, _, rfl, hM, ht, hi0, hi1, by omega, by omega, by simp only [List.length_append, List.length_cons, List.length_take]; omega, by omega, nex_next h1 (by omega) h5 (rfl)⟩)
         focus (rw [wrap_small (n := k + 1) (by omega) (by omega)]; show (a2 - (k + 1)).toNat < (a2 - k).toNat; omega))
      | (refine st_ret (by simp only [dn, reduceCtorEq, hM] <;> rfl) ?_
         exact nod_end (by omega) (by omega) h3 h4 h5 _)
      | fail "no step")
  rintro ins _ ⟨M, a0, a1, a2, a3, a4, a5, a6, a7, a8, a9, a10, a11, a12, i, rfl, hM, ht, hi0, hi1⟩
  have ha := okT_a ht
  have hat := at_node (p := 0) ht hi0 hi1 (by omega) (by omega)
  have e0 : True := trivial
  unfold tNodP
  repeat' (first
    | (first
      | (with_reducible refine st_need ?_ ?_
         focus (simp only [dn, reduceCtorEq, hM, e0] <;> first | omega | assumption))
      | (with_reducible refine st_and ?_ ?_)
      | (with_reducible exact st_ok)
      | (with_reducible refine st_br (fun hc => ?_) (fun hc => ?_) <;> (simp only [dn, reduceCtorEq, hM, e0] at hc) <;> (try (exfalso; first | contradiction | omega)))
      | (refine st_call (by rfl) (by simp only [dn, reduceCtorEq, hM, e0] <;> rfl) ?_ (by simp only [out_words, out_memAt, out_atP] <;> rfl) (by simp only [dn] <;> rfl) ?_
         focus (first | exact ⟨_, rfl⟩ | exact ⟨_, _, _, rfl, hM.1⟩ | exact ⟨_, _, _, _, _, _, _, _, _, _, _, _, _, _, _, rfl⟩)))
    | (refine st_app (by rfl) (by simp only [dn, reduceCtorEq, hM] <;> rfl) (by simp only [dn, reduceCtorEq, hM] <;> rfl) (fun rr env' he => ?_)
       simp only [List.cons_append, List.nil_append] at he
       subst he)
    | (refine st_rng (fun LL env' he => ?_)
       simp only [List.cons_append, List.nil_append] at he
       subst he)
    | (refine st_lst (by simp only [List.map_cons, List.map_nil, List.cons_append, List.nil_append] <;> rfl) ?_)
    | (refine st_loop (by rfl) (by simp only [dn, reduceCtorEq, hM] <;> rfl) (by simp only [dn] <;> rfl) ?_ (fun env' h => hb env' h)
       exact ⟨M, a0, a1, a2, a3, a4, a5, a6, a7, a8, a9, a10, a11, a12, i, _, _, _, _, _, 0, _, _, rfl, hM, ht, hi0, hi1, by omega, by omega, rfl, by simp, by simp [nexK]⟩)
    | fail "no step")
theorem hNodP : cNodP.Holds objs Tryz.prog := runCtr_holdsm (X := { cxYcp Tryz.prog with hints := hsNodP }) objsOk mixed hctsYcp (callable _ Tryz.func88 (by kernel_rfl) (by kernel_rfl)) (by rintro ins outs _ ⟨_, _, _, _, _, _, _, _, _, _, _, _, _, _, _, rfl, _⟩ ⟨c, rfl⟩; rfl) (by rw [rNodP]; exact vNodP _ _)
theorem vNodP0 (P : Program) (hs : List (Nat × Nat × List Nat)) : ∀ ins, ins.length = cNodP0.nin → cNodP0.pre ins → tNodP0.sat { cxYcp P with hints := hs } (ctrR cNodP0) ins := by
  rintro ins _ ⟨M, a0, a1, a2, a3, a4, a5, a6, a7, a8, a9, a10, a11, a12, i, rfl, ht, hi⟩
  have hat := at_none (n := a0) (h := a1) (a := a2) hi
  unfold tNodP0
  repeat' (first
    | (first
      | (with_reducible refine st_need ?_ ?_
         focus (simp only [dn, reduceCtorEq, hat] <;> first | omega | assumption))
      | (with_reducible refine st_and ?_ ?_)
      | (with_reducible exact st_ok)
      | (with_reducible refine st_br (fun hc => ?_) (fun hc => ?_) <;> (simp only [dn, reduceCtorEq, hat] at hc) <;> (try (exfalso; first | contradiction | omega)))
      | (refine st_call (by rfl) (by simp only [dn, reduceCtorEq, hat] <;> rfl) ?_ (by simp only [out_atP, out_atQ, hat] <;> rfl) (by simp only [dn] <;> rfl) ?_
         focus (first | exact ⟨_, _, _, _, _, _, _, _, _, _, _, _, _, _, _, rfl⟩)))
    | (refine st_ret (by simp only [dn, reduceCtorEq, hat] <;> rfl) ?_
       rfl)
    | fail "no step")
theorem hNodP0 : cNodP0.Holds objs Tryz.prog := runCtr_holds (X := { cxYcp Tryz.prog with hints := hsNodP0 }) objsOk mixed hctsYcp (callable _ Tryz.func88 (by kernel_rfl) (by kernel_rfl)) (by rintro ins _ ⟨_, _, _, _, _, _, _, _, _, _, _, _, _, _, _, rfl, _⟩; rfl) (by rw [rNodP0]; exact vNodP0 _ _)
set_option maxHeartbeats 8000000 in
theorem vNodQ (P : Program) (hs : List (Nat × Nat × List Nat)) : ∀ ins, ins.length = cNodQ.nin → cNodQ.pre ins → tNodQ.sat { cxYcq P with hints := hs } (ctrR cNodQ) ins := by
  have hb : ∀ env, qnodInv env → tNodQL0.sat { cxYcq P with hints := hs } (ctrR cNodQ) env := by
    rintro env ⟨M, a0, a1, a2, a3, a4, a5, a6, a7, a8, a9, a10, a11, a12, i, x15, x16, x17, x19, x20, x22, x23, x25, x26, k, xs, c, rfl, hM, ht, hi0, hi1, h1, h2, h3, h4, h5⟩
    have ha := okT_a ht
    have e0 : k < a2 → IntKind.i64.wrap (4 + k) = 4 + k := fun g => wrap_small (by omega) (by omega)
    unfold tNodQL0
    repeat' (first
      | (first
        | (with_reducible refine st_need ?_ ?_
           focus (simp only [dn, reduceCtorEq, hM, e0] <;> first | omega | assumption))
        | (with_reducible refine st_and ?_ ?_)
        | (with_reducible exact st_ok)
        | (with_reducible refine st_br (fun hc => ?_) (fun hc => ?_) <;> (simp only [dn, reduceCtorEq, hM, e0] at hc) <;> (try (exfalso; first | contradiction | omega)))
        | (refine st_call (by rfl) (by simp only [dn, reduceCtorEq, hM, e0] <;> rfl) ?_ (by simp only [fo_at, out_atQ, out_nextQ] <;> rfl) (by simp only [dn] <;> rfl) ?_
           focus (first | exact fl_at hM | exact ⟨_, _, _, _, _, _, _, _, _, _, _, _, _, _, _, rfl⟩)))
      | (refine st_app (by rfl) (by simp only [dn, reduceCtorEq, hM] <;> rfl) (by simp only [dn, reduceCtorEq, hM] <;> rfl) (fun rr env' he => ?_)
         simp only [List.cons_append, List.nil_append] at he
         subst he)
      | (refine st_rng (fun LL env' he => ?_)
         simp only [List.cons_append, List.nil_append] at he
         subst he)
      | (refine st_lst (by simp only [List.map_cons, List.map_nil, List.cons_append, List.nil_append] <;> rfl) ?_)
      | (refine st_back (by rfl) (by simp only [dn, reduceCtorEq, hM] <;> rfl) (by simp only [dn] <;> rfl) (by rfl) ?_ ?_
         focus (rw [wrap_small (n := k + 1) (by omega) (by omega)]
                (try rw [e0 (by omega)])
                refine ⟨M, a0, a1, a2, a3, a4, a5, a6, a7, a8, a9, a10, a11, a12, i, _, _, _, _, _, _, _, _, _, k + 1, _, _, rfl, hM, ht, hi0, hi1, by omega, by omega, by simp only [List.length_append, List.length_cons, List.length_take]; omega, by omega, nex_next h1 (by omega) h5 (by rw [next_at (by omega) (by omega)]; rfl)⟩)
         focus (rw [wrap_small (n := k + 1) (by omega) (by omega)]; show (a2 - (k + 1)).toNat < (a2 - k).toNat; omega))
      | (refine st_ret (by simp only [dn, reduceCtorEq, hM] <;> rfl) ?_
         exact nod_end (by omega) (by omega) h3 h4 h5 _)
      | fail "no step")
  rintro ins _ ⟨M, a0, a1, a2, a3, a4, a5, a6, a7, a8, a9, a10, a11, a12, i, rfl, hM, ht, hi0, hi1⟩
  have ha := okT_a ht
  have hat := at_node (p := 0) ht hi0 hi1 (by omega) (by omega)
  have e0 : True := trivial
  unfold tNodQ
  repeat' (first
    | (first
      | (with_reducible refine st_need ?_ ?_
         focus (simp only [dn, reduceCtorEq, hM, e0] <;> first | omega | assumption))
      | (with_reducible refine st_and ?_ ?_)
      | (with_reducible exact st_ok)
      | (with_reducible refine st_br (fun hc => ?_) (fun hc => ?_) <;> (simp only [dn, reduceCtorEq, hM, e0] at hc) <;> (try (exfalso; first | contradiction | omega)))
      | (refine st_call (by rfl) (by simp only [dn, reduceCtorEq, hM, e0] <;> rfl) ?_ (by simp only [fo_at, out_atQ, out_nextQ] <;> rfl) (by simp only [dn] <;> rfl) ?_
         focus (first | exact fl_at hM | exact ⟨_, _, _, _, _, _, _, _, _, _, _, _, _, _, _, rfl⟩)))
    | (refine st_app (by rfl) (by simp only [dn, reduceCtorEq, hM] <;> rfl) (by simp only [dn, reduceCtorEq, hM] <;> rfl) (fun rr env' he => ?_)
       simp only [List.cons_append, List.nil_append] at he
       subst he)
    | (refine st_rng (fun LL env' he => ?_)
       simp only [List.cons_append, List.nil_append] at he
       subst he)
    | (refine st_lst (by simp only [List.map_cons, List.map_nil, List.cons_append, List.nil_append] <;> rfl) ?_)
    | (refine st_loop (by rfl) (by simp only [dn, reduceCtorEq, hM] <;> rfl) (by simp only [dn] <;> rfl) ?_ (fun env' h => hb env' h)
       exact ⟨M, a0, a1, a2, a3, a4, a5, a6, a7, a8, a9, a10, a11, a12, i, _, _, _, _, _, _, _, _, _, 0, _, _, rfl, hM, ht, hi0, hi1, by omega, by omega, rfl, by simp, by simp [nexK]⟩)
    | fail "no step")
theorem hNodQ : cNodQ.Holds objs Tryz.prog := runCtr_holdsm (X := { cxYcq Tryz.prog with hints := hsNodQ }) objsOk mixed hctsYcq (callable _ Tryz.func90 (by kernel_rfl) (by kernel_rfl)) (by rintro ins outs _ ⟨_, _, _, _, _, _, _, _, _, _, _, _, _, _, _, rfl, _⟩ ⟨c, rfl⟩; rfl) (by rw [rNodQ]; exact vNodQ _ _)
theorem vNodQ0 (P : Program) (hs : List (Nat × Nat × List Nat)) : ∀ ins, ins.length = cNodQ0.nin → cNodQ0.pre ins → tNodQ0.sat { cxYcq P with hints := hs } (ctrR cNodQ0) ins := by
  rintro ins _ ⟨M, a0, a1, a2, a3, a4, a5, a6, a7, a8, a9, a10, a11, a12, i, rfl, ht, hi⟩
  have hat := at_none (n := a0) (h := a1) (a := a2) hi
  unfold tNodQ0
  repeat' (first
    | (first
      | (with_reducible refine st_need ?_ ?_
         focus (simp only [dn, reduceCtorEq, hat] <;> first | omega | assumption))
      | (with_reducible refine st_and ?_ ?_)
      | (with_reducible exact st_ok)
      | (with_reducible refine st_br (fun hc => ?_) (fun hc => ?_) <;> (simp only [dn, reduceCtorEq, hat] at hc) <;> (try (exfalso; first | contradiction | omega)))
      | (refine st_call (by rfl) (by simp only [dn, reduceCtorEq, hat] <;> rfl) ?_ (by simp only [out_atP, out_atQ, hat] <;> rfl) (by simp only [dn] <;> rfl) ?_
         focus (first | exact ⟨_, _, _, _, _, _, _, _, _, _, _, _, _, _, _, rfl⟩)))
    | (refine st_ret (by simp only [dn, reduceCtorEq, hat] <;> rfl) ?_
       rfl)
    | fail "no step")
theorem hNodQ0 : cNodQ0.Holds objs Tryz.prog := runCtr_holds (X := { cxYcq Tryz.prog with hints := hsNodQ0 }) objsOk mixed hctsYcq (callable _ Tryz.func90 (by kernel_rfl) (by kernel_rfl)) (by rintro ins _ ⟨_, _, _, _, _, _, _, _, _, _, _, _, _, _, _, rfl, _⟩; rfl) (by rw [rNodQ0]; exact vNodQ0 _ _)
theorem out_nodP0 (M : MemSt) (a0 a1 a2 a3 a4 a5 a6 a7 a8 a9 a10 a11 a12 i : Int) : cNodP0.out [.u (.mem M), .i a0, .i a1, .i a2, .i a3, .i a4, .i a5, .i a6, .i a7, .i a8, .i a9, .i a10, .i a11, .i a12, .i i] = [.u (.mem M)] := rfl
theorem out_nodQ0 (M : MemSt) (a0 a1 a2 a3 a4 a5 a6 a7 a8 a9 a10 a11 a12 i : Int) : cNodQ0.out [.u (.rmem M), .i a0, .i a1, .i a2, .i a3, .i a4, .i a5, .i a6, .i a7, .i a8, .i a9, .i a10, .i a11, .i a12, .i i] = [.u (.rmem M)] := rfl
theorem liveT_len {M : MemSt} {n h a s : Int} (e : okT n h a s = true) : (liveT M n h a s).length ≤ 128 := Nat.le_trans (List.length_filter_le _ _) (levelT_len e)
theorem take_V (V c : List Int) : (V ++ c).take ((V.length : Int)).toNat = V := by rw [Int.toNat_natCast, List.take_left']; rfl
theorem len_V (V c : List Int) : ((V.length : Int)) ≤ (V ++ c).length := by rw [List.length_append]; omega
section
variable {k : Tree} {env : List (EV U)} {X : Cx U} {R : List (EV U) → List (EV U) → Prop} {M : MemSt} {β : List Bnd} {ci : Nat}
theorem st_sameW {V c d : List Int} {y z : Int} (hc : X.cts[ci]? = some cSameWords) (ha : β.map (Bnd.den env) = [.l (V ++ c), .l (V ++ d), .i V.length, .i y, .i V.length, .i z]) (hl : V.length ≤ 200)
    (hk : ∀ env', env ++ [.b true] = env' → k.sat X R env') : (Tree.call ci β k).sat X R env :=
  st_call hc ha ⟨_, _, _, _, _, _, rfl, by omega, len_V _ _, by omega, len_V _ _, by omega⟩ (o := [.b true]) (by show [EV.b (decide _)] = _; rw [take_V, take_V, decide_eq_true rfl]) rfl (hk _ rfl)
theorem st_sameI {V c d : List Int} {y z : Int} (hc : X.cts[ci]? = some cSameInts) (ha : β.map (Bnd.den env) = [.l (V ++ c), .l (V ++ d), .i V.length, .i y, .i V.length, .i z]) (hl : V.length ≤ 200)
    (hk : ∀ env', env ++ [.b true] = env' → k.sat X R env') : (Tree.call ci β k).sat X R env :=
  st_call hc ha ⟨_, _, _, _, _, _, rfl, by omega, len_V _ _, by omega, len_V _ _, by omega⟩ (o := [.b true]) (by show [EV.b (decide _)] = _; rw [take_V, take_V, decide_eq_true rfl]) rfl (hk _ rfl)
theorem st_overW {V c : List Int} {y : Int} (hc : X.cts[ci]? = some cOverWords) (ha : β.map (Bnd.den env) = [.l (V ++ c), .i V.length, .i y]) (hl : V.length ≤ 200)
    (hk : ∀ L env', env ++ [.l L] = env' → k.sat X R env') : (Tree.call ci β k).sat X R env :=
  st_call hc ha ⟨_, _, _, rfl, by omega, len_V _ _, by omega⟩ (o := [.l _]) rfl rfl (hk _ _ rfl)
theorem st_overI {V c : List Int} {y : Int} (hc : X.cts[ci]? = some cOverInts) (ha : β.map (Bnd.den env) = [.l (V ++ c), .i V.length, .i y]) (hl : V.length ≤ 200)
    (hk : ∀ L env', env ++ [.l L] = env' → k.sat X R env') : (Tree.call ci β k).sat X R env :=
  st_call hc ha ⟨_, _, _, rfl, by omega, len_V _ _, by omega⟩ (o := [.l _]) rfl rfl (hk _ _ rfl)
theorem nodOut_V {x : EV U} {n h a s i : Int} {c : List Int} (e : 0 ≤ a) : nodOut x M n h a s i c = [x, .i (nodW M n h a s i 0), .i (nodW M n h a s i 1), .i (nodW M n h a s i 2), .i (nodW M n h a s i 3), .l (nexK M n h a s i a.toNat ++ c), .i (nexK M n h a s i a.toNat).length, .i (((nexK M n h a s i a.toNat).length + c.length : Nat) : Int)] := by
  rw [nodOut, nex_len, show ((a.toNat : Nat) : Int) = a by omega]
theorem st_nodP {a0 a1 a2 a3 a4 a5 a6 a7 a8 a9 a10 a11 a12 i : Int} (hc : X.cts[ci]? = some cNodP) (ha : β.map (Bnd.den env) = [.u (.mem M), .i a0, .i a1, .i a2, .i a3, .i a4, .i a5, .i a6, .i a7, .i a8, .i a9, .i a10, .i a11, .i a12, .i i]) (hM : M.fine) (ht : okT a0 a1 a2 a5 = true) (h0 : 0 ≤ i) (h1 : i < a5)
    (hk : ∀ V cc env', V.length ≤ 4 → V = nexK M a0 a1 a2 a5 i a2.toNat → env ++ [.u (.mem M), .i (nodW M a0 a1 a2 a5 i 0), .i (nodW M a0 a1 a2 a5 i 1), .i (nodW M a0 a1 a2 a5 i 2), .i (nodW M a0 a1 a2 a5 i 3), .l (V ++ cc), .i V.length, .i ((V.length + cc.length : Nat) : Int)] = env' → k.sat X R env') : (Tree.callm ci β k).sat X R env :=
  st_callm hc ha ⟨M, a0, a1, a2, a3, a4, a5, a6, a7, a8, a9, a10, a11, a12, i, rfl, hM, ht, h0, h1⟩ (fun o env' hm he => by
    have g := okT_a ht
    obtain ⟨c, rfl⟩ := hm
    refine hk _ c env' ?_ rfl (by rw [← he]; congr 1; exact (nodOut_V (by omega)).symm)
    rw [nex_len]; omega)
theorem st_nodQ {a0 a1 a2 a3 a4 a5 a6 a7 a8 a9 a10 a11 a12 i : Int} (hc : X.cts[ci]? = some cNodQ) (ha : β.map (Bnd.den env) = [.u (.rmem M), .i a0, .i a1, .i a2, .i a3, .i a4, .i a5, .i a6, .i a7, .i a8, .i a9, .i a10, .i a11, .i a12, .i i]) (hM : M.fine) (ht : okT a0 a1 a2 a5 = true) (h0 : 0 ≤ i) (h1 : i < a5)
    (hk : ∀ V cc env', V = nexK M a0 a1 a2 a5 i a2.toNat → env ++ [.u (.rmem M), .i (nodW M a0 a1 a2 a5 i 0), .i (nodW M a0 a1 a2 a5 i 1), .i (nodW M a0 a1 a2 a5 i 2), .i (nodW M a0 a1 a2 a5 i 3), .l (V ++ cc), .i V.length, .i ((V.length + cc.length : Nat) : Int)] = env' → k.sat X R env') : (Tree.callm ci β k).sat X R env :=
  st_callm hc ha ⟨M, a0, a1, a2, a3, a4, a5, a6, a7, a8, a9, a10, a11, a12, i, rfl, hM, ht, h0, h1⟩ (fun o env' hm he => by
    have g := okT_a ht
    obtain ⟨c, rfl⟩ := hm
    exact hk _ c env' rfl (by rw [← he]; congr 1; exact (nodOut_V (by omega)).symm))
end
theorem hctsYcA : ∀ (ci : Nat) (c : Ctr U), (ctsYc ++ [cNodP, cNodQ])[ci]? = some c → c.Holds objs Tryz.prog := by
  intro ci c h
  match ci, h with
  | 0, h => cases h; exact hLevel
  | 1, h => cases h; exact hLive
  | 2, h => cases h; exact hQLevel
  | 3, h => cases h; exact hQLive
  | 4, h => cases h; exact hSameWords
  | 5, h => cases h; exact hSameInts
  | 6, h => cases h; exact hOverWords
  | 7, h => cases h; exact hOverInts
  | 8, h => cases h; exact hNodP
  | 9, h => cases h; exact hNodQ
  | n + 10, h => cases h
set_option maxHeartbeats 4000000 in
theorem vSeenA (P : Program) (hs : List (Nat × Nat × List Nat)) : ∀ ins, ins.length = cSeenA.nin → cSeenA.pre ins → tSeenA.sat { cxYcA P with hints := hs } (ctrR cSeenA) ins := by
  rintro ins _ ⟨M, a0, a1, a2, a3, a4, a5, a6, a7, a8, a9, a10, a11, a12, i, l, rfl, hM, ht, hi0, hi1⟩
  unfold tSeenA
  repeat' (first
    | (first
      | (with_reducible refine st_need ?_ ?_
         focus (simp only [dn, reduceCtorEq, hM] <;> first | omega | assumption))
      | (with_reducible refine st_and ?_ ?_)
      | (with_reducible exact st_ok)
      | (with_reducible refine st_br (fun hc => ?_) (fun hc => ?_) <;> (simp only [dn, reduceCtorEq, hM] at hc) <;> (try (exfalso; first | contradiction | omega)))
      | (refine st_call (by rfl) (by simp only [dn, reduceCtorEq, hM] <;> rfl) ?_ (by simp only [out_nodP0, out_nodQ0] <;> rfl) (by simp only [dn] <;> rfl) ?_
         focus (first | exact ⟨_, rfl⟩)))
    | (refine st_level (by rfl) (by simp only [dn, reduceCtorEq, hM] <;> rfl) hM ht (fun cc env' he => ?_)
       simp only [List.cons_append, List.nil_append] at he
       subst he)
    | (refine st_live (by rfl) (by simp only [dn, reduceCtorEq, hM] <;> rfl) hM ht (fun cc env' he => ?_)
       simp only [List.cons_append, List.nil_append] at he
       subst he)
    | (refine st_qlevel (by rfl) (by simp only [dn, reduceCtorEq, hM] <;> rfl) hM ht (fun cc env' he => ?_)
       simp only [List.cons_append, List.nil_append] at he
       subst he)
    | (refine st_qlive (by rfl) (by simp only [dn, reduceCtorEq, hM] <;> rfl) hM ht (fun cc env' he => ?_)
       simp only [List.cons_append, List.nil_append] at he
       subst he)
    | (refine st_sameW (by rfl) (by simp only [dn, reduceCtorEq, hM] <;> rfl) (by first | omega | exact Nat.le_trans (levelT_len ht) (by decide) | exact Nat.le_trans (liveT_len ht) (by decide)) (fun env' he => ?_)
       simp only [List.cons_append, List.nil_append] at he
       subst he)
    | (refine st_sameI (by rfl) (by simp only [dn, reduceCtorEq, hM] <;> rfl) (by first | omega | exact Nat.le_trans (levelT_len ht) (by decide) | exact Nat.le_trans (liveT_len ht) (by decide)) (fun env' he => ?_)
       simp only [List.cons_append, List.nil_append] at he
       subst he)
    | (refine st_overW (by rfl) (by simp only [dn, reduceCtorEq, hM] <;> rfl) (by first | omega | exact Nat.le_trans (levelT_len ht) (by decide) | exact Nat.le_trans (liveT_len ht) (by decide)) (fun L env' he => ?_)
       simp only [List.cons_append, List.nil_append] at he
       subst he)
    | (refine st_overI (by rfl) (by simp only [dn, reduceCtorEq, hM] <;> rfl) (by first | omega | exact Nat.le_trans (levelT_len ht) (by decide) | exact Nat.le_trans (liveT_len ht) (by decide)) (fun L env' he => ?_)
       simp only [List.cons_append, List.nil_append] at he
       subst he)
    | (refine st_nodP (by rfl) (by simp only [dn, reduceCtorEq, hM] <;> rfl) hM ht hi0 hi1 (fun V cc env' hV hVe he => ?_)
       simp only [List.cons_append, List.nil_append] at he
       subst he)
    | (refine st_nodQ (by rfl) (by simp only [dn, reduceCtorEq, hM] <;> rfl) hM ht hi0 hi1 (fun V2 cc env' hVe2 he => ?_)
       rw [← hVe] at hVe2
       subst hVe2
       simp only [List.cons_append, List.nil_append] at he
       subst he)
    | (refine st_ret (by simp only [dn, reduceCtorEq, hM] <;> rfl) ?_
       rfl)
    | fail "no step")
theorem hSeenA : cSeenA.Holds objs Tryz.prog := runCtr_holds (X := { cxYcA Tryz.prog with hints := hsSeenA }) objsOk mixed hctsYcA (callable _ Tryz.func26 (by kernel_rfl) (by kernel_rfl)) (by rintro ins _ ⟨_, _, _, _, _, _, _, _, _, _, _, _, _, _, _, _, rfl, _⟩; rfl) (by rw [rSeenA]; exact vSeenA _ _)
theorem hctsYcB : ∀ (ci : Nat) (c : Ctr U), (ctsYc ++ [cNodP0, cNodQ0])[ci]? = some c → c.Holds objs Tryz.prog := by
  intro ci c h
  match ci, h with
  | 0, h => cases h; exact hLevel
  | 1, h => cases h; exact hLive
  | 2, h => cases h; exact hQLevel
  | 3, h => cases h; exact hQLive
  | 4, h => cases h; exact hSameWords
  | 5, h => cases h; exact hSameInts
  | 6, h => cases h; exact hOverWords
  | 7, h => cases h; exact hOverInts
  | 8, h => cases h; exact hNodP0
  | 9, h => cases h; exact hNodQ0
  | n + 10, h => cases h
set_option maxHeartbeats 4000000 in
theorem vSeenB (P : Program) (hs : List (Nat × Nat × List Nat)) : ∀ ins, ins.length = cSeenB.nin → cSeenB.pre ins → tSeenB.sat { cxYcB P with hints := hs } (ctrR cSeenB) ins := by
  rintro ins _ ⟨M, a0, a1, a2, a3, a4, a5, a6, a7, a8, a9, a10, a11, a12, i, l, rfl, hM, ht, hi⟩
  unfold tSeenB
  repeat' (first
    | (first
      | (with_reducible refine st_need ?_ ?_
         focus (simp only [dn, reduceCtorEq, hM] <;> first | omega | assumption))
      | (with_reducible refine st_and ?_ ?_)
      | (with_reducible exact st_ok)
      | (with_reducible refine st_br (fun hc => ?_) (fun hc => ?_) <;> (simp only [dn, reduceCtorEq, hM] at hc) <;> (try (exfalso; first | contradiction | omega)))
      | (refine st_call (by rfl) (by simp only [dn, reduceCtorEq, hM] <;> rfl) ?_ (by simp only [out_nodP0, out_nodQ0] <;> rfl) (by simp only [dn] <;> rfl) ?_
         focus (first | exact ⟨M, a0, a1, a2, a3, a4, a5, a6, a7, a8, a9, a10, a11, a12, i, rfl, ht, hi⟩)))
    | (refine st_level (by rfl) (by simp only [dn, reduceCtorEq, hM] <;> rfl) hM ht (fun cc env' he => ?_)
       simp only [List.cons_append, List.nil_append] at he
       subst he)
    | (refine st_live (by rfl) (by simp only [dn, reduceCtorEq, hM] <;> rfl) hM ht (fun cc env' he => ?_)
       simp only [List.cons_append, List.nil_append] at he
       subst he)
    | (refine st_qlevel (by rfl) (by simp only [dn, reduceCtorEq, hM] <;> rfl) hM ht (fun cc env' he => ?_)
       simp only [List.cons_append, List.nil_append] at he
       subst he)
    | (refine st_qlive (by rfl) (by simp only [dn, reduceCtorEq, hM] <;> rfl) hM ht (fun cc env' he => ?_)
       simp only [List.cons_append, List.nil_append] at he
       subst he)
    | (refine st_sameW (by rfl) (by simp only [dn, reduceCtorEq, hM] <;> rfl) (by first | omega | exact Nat.le_trans (levelT_len ht) (by decide) | exact Nat.le_trans (liveT_len ht) (by decide)) (fun env' he => ?_)
       simp only [List.cons_append, List.nil_append] at he
       subst he)
    | (refine st_sameI (by rfl) (by simp only [dn, reduceCtorEq, hM] <;> rfl) (by first | omega | exact Nat.le_trans (levelT_len ht) (by decide) | exact Nat.le_trans (liveT_len ht) (by decide)) (fun env' he => ?_)
       simp only [List.cons_append, List.nil_append] at he
       subst he)
    | (refine st_overW (by rfl) (by simp only [dn, reduceCtorEq, hM] <;> rfl) (by first | omega | exact Nat.le_trans (levelT_len ht) (by decide) | exact Nat.le_trans (liveT_len ht) (by decide)) (fun L env' he => ?_)
       simp only [List.cons_append, List.nil_append] at he
       subst he)
    | (refine st_overI (by rfl) (by simp only [dn, reduceCtorEq, hM] <;> rfl) (by first | omega | exact Nat.le_trans (levelT_len ht) (by decide) | exact Nat.le_trans (liveT_len ht) (by decide)) (fun L env' he => ?_)
       simp only [List.cons_append, List.nil_append] at he
       subst he)
    | (refine st_ret (by simp only [dn, reduceCtorEq, hM] <;> rfl) ?_
       rfl)
    | fail "no step")
theorem hSeenB : cSeenB.Holds objs Tryz.prog := runCtr_holds (X := { cxYcB Tryz.prog with hints := hsSeenB }) objsOk mixed hctsYcB (callable _ Tryz.func26 (by kernel_rfl) (by kernel_rfl)) (by rintro ins _ ⟨_, _, _, _, _, _, _, _, _, _, _, _, _, _, _, _, rfl, _⟩; rfl) (by rw [rSeenB]; exact vSeenB _ _)
theorem holds_pre {P : Program} {c : Ctr U} {p q : List (EV U) → Prop} (h : ∀ ins, c.pre ins → p ins ∨ q ins) (hp : ({ c with pre := p } : Ctr U).Holds objs P) (hq : ({ c with pre := q } : Ctr U).Holds objs P) : c.Holds objs P :=
  ⟨hp.1, fun ins outs h1 h2 h3 => (h ins h2).elim (fun g => hp.2.1 ins outs h1 g h3) (fun g => hq.2.1 ins outs h1 g h3),
    fun ins ρ w vals F hl h2 => (h ins h2).elim (fun g => hp.2.2 ins ρ w vals F hl g) (fun g => hq.2.2 ins ρ w vals F hl g)⟩
theorem hSeen : cSeen.Holds objs Tryz.prog := by
  refine holds_pre ?_ hSeenA hSeenB
  rintro ins ⟨M, a0, a1, a2, a3, a4, a5, a6, a7, a8, a9, a10, a11, a12, i, l, rfl, hM, ht⟩
  by_cases g : 0 ≤ i ∧ i < a5
  · exact .inl ⟨M, a0, a1, a2, a3, a4, a5, a6, a7, a8, a9, a10, a11, a12, i, l, rfl, hM, ht, g.1, g.2⟩
  · exact .inr ⟨M, a0, a1, a2, a3, a4, a5, a6, a7, a8, a9, a10, a11, a12, i, l, rfl, hM, ht, by omega⟩
end Go.Proofs.YtbmbiiiacajolaaGreat
