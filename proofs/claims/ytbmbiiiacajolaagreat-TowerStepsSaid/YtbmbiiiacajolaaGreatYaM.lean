import Derived.Test.YtbmbiiiacajolaaGreatXaM
import Derived.Test.YtbmbiiiacajolaaGreatTdW
import Derived.Test.YtbmbiiiacajolaaGreatWxV
import Derived.KernelRfl
/- Lays: what is said; contracts. -/
namespace Go.Proofs.YtbmbiiiacajolaaGreat
set_option linter.unusedVariables false
set_option linter.unusedSimpArgs false
set_option linter.unusedSectionVars false
open Go Go.RowKit

/-- a word read as an index -/
def idxW (size w : Int) : Int := if w % 65536 - 1 ≥ size then -1 else w % 65536 - 1
/-- why no node of a ref may be laid so -/
def refusedL (n h a s r job high : Int) : Int :=
  if okT n h a s = false then 2 else if refOk r = false then 5 else if r % 65536 - 1 < 0 ∨ r / 9223372036854775808 = 1 ∨ s ≤ r % 65536 - 1 ∨ job < 0 ∨ 65534 < job ∨ high < 1 ∨ a < high then 3 else 0
def newLay (t : List Int) (n h a s r key job high : Int) : LaySt := if refusedL n h a s r job high = 0 then ⟨t, r, idxW s r, key, job, high, 0, 0, 0⟩ else ⟨[], 0, 0, 0, 0, 0, 9, refusedL n h a s r job high, 0⟩
def tw (L : LaySt) (i : Nat) : Int := L.t[i]?.getD 0
def partL (L : LaySt) : Int := if L.line = 0 then L.key else if L.line = 1 then L.job else if L.line = 2 then L.high else 2
def stepLay (L : LaySt) (M : MemSt) : LaySt × MemSt :=
  if L.line = 9 then (L, M) else (⟨L.t, L.ref, L.i, L.key, L.job, L.high, if L.line = 3 then 9 else L.line + 1, L.err, L.ref⟩, M.store (atT (tw L 0) (tw L 1) (tw L 2) (tw L 5) L.i L.line) (partL L))
def errLay (L : LaySt) : Int := if L.line = 9 then L.err else 14
def LaySt.ok (L : LaySt) : Prop := ∃ a0 a1 a2 a3 a4 a5 a6 a7 a8 a9 a10 a11 a12 r i k j h n b : Int, L = ⟨[a0, a1, a2, a3, a4, a5, a6, a7, a8, a9, a10, a11, a12], r, i, k, j, h, n, 0, b⟩ ∧ (n = 0 ∧ b = 0 ∨ (n = 1 ∨ n = 2 ∨ n = 3 ∨ n = 9) ∧ b = r) ∧ 0 ≤ j ∧ j ≤ 65534 ∧ 1 ≤ h ∧ h ≤ 4 ∨ ∃ e : Int, L = ⟨[], 0, 0, 0, 0, 0, 9, e, 0⟩ ∧ e ≠ 0

def e13 (a0 a1 a2 a3 a4 a5 a6 a7 a8 a9 a10 a11 a12 : Int) : List (EV U) := [.i a0, .i a1, .i a2, .i a3, .i a4, .i a5, .i a6, .i a7, .i a8, .i a9, .i a10, .i a11, .i a12]
def cIdxP : Ctr U :=
  { fn := 96, nin := 14, args := [twV 0, .int .u64 (.var 13)], heap := []
    pre := fun ins => ∃ a0 a1 a2 a3 a4 a5 a6 a7 a8 a9 a10 a11 a12 w : Int, ins = [.i a0, .i a1, .i a2, .i a3, .i a4, .i a5, .i a6, .i a7, .i a8, .i a9, .i a10, .i a11, .i a12, .i w] ∧ isW w, nout := 1
    out := fun ins => [.i (idxW (gI ins 5) (gI ins 13))], ret := .int .i64 (.var 14), post := [] }
def cIdxQ : Ctr U := { cIdxP with fn := 100 }
def newLayOut (ins : List (EV U)) : LaySt := newLay [gI ins 0, gI ins 1, gI ins 2, gI ins 3, gI ins 4, gI ins 5, gI ins 6, gI ins 7, gI ins 8, gI ins 9, gI ins 10, gI ins 11, gI ins 12] (gI ins 0) (gI ins 1) (gI ins 2) (gI ins 5) (gI ins 13) (gI ins 14) (gI ins 15) (gI ins 16)
def newLayPre (ins : List (EV U)) : Prop := ∃ a0 a1 a2 a3 a4 a5 a6 a7 a8 a9 a10 a11 a12 r k j h : Int, ins = [.i a0, .i a1, .i a2, .i a3, .i a4, .i a5, .i a6, .i a7, .i a8, .i a9, .i a10, .i a11, .i a12, .i r, .i k, .i j, .i h] ∧ isW r
def cNewLay : Ctr U :=
  { fn := 27, nin := 17, args := [twV 0, .int .u64 (.var 13), .int .u64 (.var 14), .int .i64 (.var 15), .int .i64 (.var 16)], heap := []
    pre := newLayPre, nout := 1, out := fun ins => [.u (.lay (newLayOut ins))], ret := .hnd 0, post := [.abs 17] }
def cQNewLay : Ctr U :=
  { fn := 28, nin := 17, args := [twV 0, .int .u64 (.var 13), .int .u64 (.var 14), .int .i64 (.var 15), .int .i64 (.var 16)], heap := []
    pre := newLayPre, nout := 1, out := fun ins => [.u (.rlay (newLayOut ins))], ret := .hnd 0, post := [.abs 17] }
def cLayStep : Ctr U :=
  { fn := 29, nin := 2, args := [.hnd 0, .hnd 1], heap := [.abs 0, .abs 1]
    pre := fun ins => ∃ L M, ins = [.u (.lay L), .u (.mem M)] ∧ L.ok, nout := 3
    out := fun ins => match ins with | [.u (.lay L), .u (.mem M)] => [.u (.lay (stepLay L M).1), .u (.mem (stepLay L M).2), .b ((stepLay L M).1.line == 9)] | _ => []
    ret := .bool (.var 4), post := [.abs 2, .abs 3] }
def cQLayStep : Ctr U :=
  { fn := 30, nin := 2, args := [.hnd 0, .hnd 1], heap := [.abs 0, .abs 1]
    pre := fun ins => ∃ L M, ins = [.u (.rlay L), .u (.rmem M)] ∧ L.ok ∧ M.W.length ≤ 4096, nout := 3
    out := fun ins => match ins with | [.u (.rlay L), .u (.rmem M)] => [.u (.rlay (stepLay L M).1), .u (.rmem (stepLay L M).2), .b ((stepLay L M).1.line == 9)] | _ => []
    ret := .bool (.var 4), post := [.abs 2, .abs 3] }
def cLayErr : Ctr U :=
  { fn := 31, nin := 1, args := [.hnd 0], heap := [.abs 0]
    pre := fun ins => ∃ L, ins = [.u (.lay L)] ∧ L.ok, nout := 2
    out := fun ins => match ins with | [.u (.lay L)] => [.u (.lay L), .i (errLay L)] | _ => []
    ret := .int .i64 (.var 2), post := [.abs 1] }
def cQLayErr : Ctr U :=
  { fn := 32, nin := 1, args := [.hnd 0], heap := [.abs 0]
    pre := fun ins => ∃ L, ins = [.u (.rlay L)] ∧ L.ok, nout := 2
    out := fun ins => match ins with | [.u (.rlay L)] => [.u (.rlay L), .i (errLay L)] | _ => []
    ret := .int .i64 (.var 2), post := [.abs 1] }
def cLayBy : Ctr U :=
  { fn := 33, nin := 1, args := [.hnd 0], heap := [.abs 0]
    pre := fun ins => ∃ L, ins = [.u (.lay L)] ∧ L.ok, nout := 2
    out := fun ins => match ins with | [.u (.lay L)] => [.u (.lay L), .i L.by_] | _ => []
    ret := .int .u64 (.var 2), post := [.abs 1] }
def cQLayBy : Ctr U :=
  { fn := 34, nin := 1, args := [.hnd 0], heap := [.abs 0]
    pre := fun ins => ∃ L, ins = [.u (.rlay L)] ∧ L.ok, nout := 2
    out := fun ins => match ins with | [.u (.rlay L)] => [.u (.rlay L), .i L.by_] | _ => []
    ret := .int .u64 (.var 2), post := [.abs 1] }
def cxYi (P : Program) : Cx U := { cx P [] with join := true }
def cxYn (P : Program) : Cx U := { cx P [cSnd15, cGetRef, cIdxP] with join := true }
def cxYq (P : Program) : Cx U := { cx P [cDSnd, cRGetRef, cIdxQ] with join := true }
def cxYs (P : Program) : Cx U := { cx P [cStore, cAt] with join := true }
def cxYt (P : Program) : Cx U := { cx P [cQStore, cRAt] with join := true }
end Go.Proofs.YtbmbiiiacajolaaGreat
/- The ways of the runs, as a program of ours printed them. -/
namespace Go.Proofs.YtbmbiiiacajolaaGreat
set_option linter.unusedVariables false
set_option linter.unusedSimpArgs false
set_option linter.unusedSectionVars false
open Go
set_option maxRecDepth 100000

def hsIdxP : List (Nat × Nat × List Nat) := []
def tIdxP : Tree := (.and (.and (.and (.br (.cmp .geq (.bin .sub .i64 (.conv .i64 (.bin .and .u64 (.bin .shr .u64 (.var 13) (.lit 0)) (.lit 65535))) (.lit 1)) (.var 5))
 (.ret [.ex (.lit (-1))])
 (.ret [.ex (.bin .sub .i64 (.conv .i64 (.bin .and .u64 (.bin .shr .u64 (.var 13) (.lit 0)) (.lit 65535))) (.lit 1))])) .ok) .ok) .ok)
theorem rIdxP : runCtr { (cxYi Tryz.prog) with hints := hsIdxP } 20 cIdxP [] [] = tIdxP := by kernel_rfl

def hsIdxQ : List (Nat × Nat × List Nat) := []
def tIdxQ : Tree := (.br (.cmp .geq (.bin .sub .i64 (.conv .i64 (.bin .rem .u64 (.var 13) (.lit 65536))) (.lit 1)) (.var 5))
 (.ret [.ex (.lit (-1))])
 (.ret [.ex (.bin .sub .i64 (.conv .i64 (.bin .rem .u64 (.var 13) (.lit 65536))) (.lit 1))]))
theorem rIdxQ : runCtr { (cxYi Tryz.prog) with hints := hsIdxQ } 20 cIdxQ [] [] = tIdxQ := by kernel_rfl

def hsNewLay : List (Nat × Nat × List Nat) := []
def tNewLay : Tree := (.call 0 [.ex (.var 0), .ex (.var 1), .ex (.var 2), .ex (.var 3), .ex (.var 4), .ex (.var 5), .ex (.var 6), .ex (.var 7), .ex (.var 8), .ex (.var 9), .ex (.var 10), .ex (.var 11), .ex (.var 12)] (.br (.var 17)
 (.call 1 [.ex (.var 13)] (.br (.cmp .eql (.var 21) (.lit 0))
 (.br (.cmp .lss (.var 18) (.lit 0))
 (.ext (.mk 6 [.ex (.var 13), .ex (.lit 3)]) (.ret [.var 22]))
 (.br (.var 20)
 (.ext (.mk 6 [.ex (.var 13), .ex (.lit 3)]) (.ret [.var 22]))
 (.br (.cmp .geq (.var 18) (.var 5))
 (.ext (.mk 6 [.ex (.var 13), .ex (.lit 3)]) (.ret [.var 22]))
 (.br (.cmp .lss (.var 15) (.lit 0))
 (.ext (.mk 6 [.ex (.var 13), .ex (.lit 3)]) (.ret [.var 22]))
 (.br (.cmp .gtr (.var 15) (.lit 65534))
 (.ext (.mk 6 [.ex (.var 13), .ex (.lit 3)]) (.ret [.var 22]))
 (.br (.cmp .lss (.var 16) (.lit 1))
 (.ext (.mk 6 [.ex (.var 13), .ex (.lit 3)]) (.ret [.var 22]))
 (.br (.cmp .gtr (.var 16) (.var 2))
 (.ext (.mk 6 [.ex (.var 13), .ex (.lit 3)]) (.ret [.var 22]))
 (.call 2 [.ex (.var 0), .ex (.var 1), .ex (.var 2), .ex (.var 3), .ex (.var 4), .ex (.var 5), .ex (.var 6), .ex (.var 7), .ex (.var 8), .ex (.var 9), .ex (.var 10), .ex (.var 11), .ex (.var 12), .ex (.var 13)] (.ext (.mk 5 [.ex (.var 0), .ex (.var 1), .ex (.var 2), .ex (.var 3), .ex (.var 4), .ex (.var 5), .ex (.var 6), .ex (.var 7), .ex (.var 8), .ex (.var 9), .ex (.var 10), .ex (.var 11), .ex (.var 12), .ex (.var 13), .ex (.var 22), .ex (.var 14), .ex (.conv .u64 (.var 15)), .ex (.conv .u64 (.var 16)), .ex (.lit 0)]) (.ret [.var 23]))))))))))
 (.ext (.mk 6 [.ex (.var 13), .ex (.lit 5)]) (.ret [.var 22]))))
 (.ext (.mk 6 [.ex (.var 13), .ex (.lit 2)]) (.ret [.var 18]))))
theorem rNewLay : runCtr { (cxYn Tryz.prog) with hints := hsNewLay } 20 cNewLay [] [(0, [5, 6])] = tNewLay := by kernel_rfl

def hsQNewLay : List (Nat × Nat × List Nat) := []
def tQNewLay : Tree := (.call 1 [.ex (.var 13)] (.call 0 [.ex (.var 0), .ex (.var 1), .ex (.var 2), .ex (.var 3), .ex (.var 4), .ex (.var 5), .ex (.var 6), .ex (.var 7), .ex (.var 8), .ex (.var 9), .ex (.var 10), .ex (.var 11), .ex (.var 12)] (.br (.var 21)
 (.br (.cmp .eql (.var 20) (.lit 0))
 (.br (.var 19)
 (.ext (.mk 12 [.ex (.lit 0), .ex (.lit 0), .ex (.lit 0), .ex (.lit 0), .ex (.lit 0), .ex (.lit 0), .ex (.lit 0), .ex (.lit 0), .ex (.lit 0), .ex (.lit 0), .ex (.lit 0), .ex (.lit 0), .ex (.lit 0), .ex (.lit 0), .ex (.lit 0), .ex (.lit 0), .ex (.lit 0), .ex (.lit 0), .ex (.lit 0), .ex (.lit 3)]) (.ret [.var 22]))
 (.br (.cmp .lss (.var 17) (.lit 0))
 (.ext (.mk 12 [.ex (.lit 0), .ex (.lit 0), .ex (.lit 0), .ex (.lit 0), .ex (.lit 0), .ex (.lit 0), .ex (.lit 0), .ex (.lit 0), .ex (.lit 0), .ex (.lit 0), .ex (.lit 0), .ex (.lit 0), .ex (.lit 0), .ex (.lit 0), .ex (.lit 0), .ex (.lit 0), .ex (.lit 0), .ex (.lit 0), .ex (.lit 0), .ex (.lit 3)]) (.ret [.var 22]))
 (.br (.cmp .geq (.var 17) (.var 5))
 (.ext (.mk 12 [.ex (.lit 0), .ex (.lit 0), .ex (.lit 0), .ex (.lit 0), .ex (.lit 0), .ex (.lit 0), .ex (.lit 0), .ex (.lit 0), .ex (.lit 0), .ex (.lit 0), .ex (.lit 0), .ex (.lit 0), .ex (.lit 0), .ex (.lit 0), .ex (.lit 0), .ex (.lit 0), .ex (.lit 0), .ex (.lit 0), .ex (.lit 0), .ex (.lit 3)]) (.ret [.var 22]))
 (.br (.cmp .lss (.var 16) (.lit 1))
 (.ext (.mk 12 [.ex (.lit 0), .ex (.lit 0), .ex (.lit 0), .ex (.lit 0), .ex (.lit 0), .ex (.lit 0), .ex (.lit 0), .ex (.lit 0), .ex (.lit 0), .ex (.lit 0), .ex (.lit 0), .ex (.lit 0), .ex (.lit 0), .ex (.lit 0), .ex (.lit 0), .ex (.lit 0), .ex (.lit 0), .ex (.lit 0), .ex (.lit 0), .ex (.lit 3)]) (.ret [.var 22]))
 (.br (.cmp .gtr (.var 16) (.var 2))
 (.ext (.mk 12 [.ex (.lit 0), .ex (.lit 0), .ex (.lit 0), .ex (.lit 0), .ex (.lit 0), .ex (.lit 0), .ex (.lit 0), .ex (.lit 0), .ex (.lit 0), .ex (.lit 0), .ex (.lit 0), .ex (.lit 0), .ex (.lit 0), .ex (.lit 0), .ex (.lit 0), .ex (.lit 0), .ex (.lit 0), .ex (.lit 0), .ex (.lit 0), .ex (.lit 3)]) (.ret [.var 22]))
 (.br (.cmp .lss (.var 15) (.lit 0))
 (.ext (.mk 12 [.ex (.lit 0), .ex (.lit 0), .ex (.lit 0), .ex (.lit 0), .ex (.lit 0), .ex (.lit 0), .ex (.lit 0), .ex (.lit 0), .ex (.lit 0), .ex (.lit 0), .ex (.lit 0), .ex (.lit 0), .ex (.lit 0), .ex (.lit 0), .ex (.lit 0), .ex (.lit 0), .ex (.lit 0), .ex (.lit 0), .ex (.lit 0), .ex (.lit 3)]) (.ret [.var 22]))
 (.br (.cmp .gtr (.var 15) (.lit 65534))
 (.ext (.mk 12 [.ex (.lit 0), .ex (.lit 0), .ex (.lit 0), .ex (.lit 0), .ex (.lit 0), .ex (.lit 0), .ex (.lit 0), .ex (.lit 0), .ex (.lit 0), .ex (.lit 0), .ex (.lit 0), .ex (.lit 0), .ex (.lit 0), .ex (.lit 0), .ex (.lit 0), .ex (.lit 0), .ex (.lit 0), .ex (.lit 0), .ex (.lit 0), .ex (.lit 3)]) (.ret [.var 22]))
 (.and (.call 2 [.ex (.var 0), .ex (.var 1), .ex (.var 2), .ex (.var 3), .ex (.var 4), .ex (.var 5), .ex (.var 6), .ex (.var 7), .ex (.var 8), .ex (.var 9), .ex (.var 10), .ex (.var 11), .ex (.var 12), .ex (.var 13)] (.and (.ext (.mk 8 [.ex (.var 0), .ex (.var 1), .ex (.var 2), .ex (.var 3), .ex (.var 4), .ex (.var 5), .ex (.var 6), .ex (.var 7), .ex (.var 8), .ex (.var 9), .ex (.var 10), .ex (.var 11), .ex (.var 12), .ex (.var 13), .ex (.lit 0), .ex (.var 14), .ex (.var 22), .ex (.var 15), .ex (.var 16)]) (.ret [.var 23])) .ok)) .ok))))))))
 (.ext (.mk 12 [.ex (.lit 0), .ex (.lit 0), .ex (.lit 0), .ex (.lit 0), .ex (.lit 0), .ex (.lit 0), .ex (.lit 0), .ex (.lit 0), .ex (.lit 0), .ex (.lit 0), .ex (.lit 0), .ex (.lit 0), .ex (.lit 0), .ex (.lit 0), .ex (.lit 0), .ex (.lit 0), .ex (.lit 0), .ex (.lit 0), .ex (.lit 0), .ex (.lit 5)]) (.ret [.var 22])))
 (.ext (.mk 12 [.ex (.lit 0), .ex (.lit 0), .ex (.lit 0), .ex (.lit 0), .ex (.lit 0), .ex (.lit 0), .ex (.lit 0), .ex (.lit 0), .ex (.lit 0), .ex (.lit 0), .ex (.lit 0), .ex (.lit 0), .ex (.lit 0), .ex (.lit 0), .ex (.lit 0), .ex (.lit 0), .ex (.lit 0), .ex (.lit 0), .ex (.lit 0), .ex (.lit 2)]) (.ret [.var 22])))))
theorem rQNewLay : runCtr { (cxYq Tryz.prog) with hints := hsQNewLay } 20 cQNewLay [] [(0, [8, 9, 10, 11, 12])] = tQNewLay := by kernel_rfl

def hsLayStep : List (Nat × Nat × List Nat) := []
def tLayStep : Tree := (.and (.opn 0 5 (.br (.cmp .eql (.var 20) (.lit 4))
 (.ext (.mk 5 [.ex (.var 2), .ex (.var 3), .ex (.var 4), .ex (.var 5), .ex (.var 6), .ex (.var 7), .ex (.var 8), .ex (.var 9), .ex (.var 10), .ex (.var 11), .ex (.var 12), .ex (.var 13), .ex (.var 14), .ex (.var 15), .ex (.var 16), .ex (.var 17), .ex (.var 18), .ex (.var 19), .ex (.var 20)]) (.ret [.var 21, .var 1, .bx (.lit true)]))
 (.br (.cmp .eql (.lit 0) (.var 20))
 (.and (.call 1 [.ex (.var 2), .ex (.var 3), .ex (.var 4), .ex (.var 5), .ex (.var 6), .ex (.var 7), .ex (.var 8), .ex (.var 9), .ex (.var 10), .ex (.var 11), .ex (.var 12), .ex (.var 13), .ex (.var 14), .ex (.var 16), .ex (.lit 0)] (.and (.call 0 [.var 1, .ex (.var 21), .ex (.var 17)] (.ext (.mk 5 [.ex (.var 2), .ex (.var 3), .ex (.var 4), .ex (.var 5), .ex (.var 6), .ex (.var 7), .ex (.var 8), .ex (.var 9), .ex (.var 10), .ex (.var 11), .ex (.var 12), .ex (.var 13), .ex (.var 14), .ex (.var 15), .ex (.var 16), .ex (.var 17), .ex (.var 18), .ex (.var 19), .ex (.bin .add .i64 (.var 20) (.lit 1))]) (.ret [.var 23, .var 22, .bx (.cmp .eql (.bin .add .i64 (.var 20) (.lit 1)) (.lit 4))]))) .ok)) .ok)
 (.br (.cmp .eql (.lit 1) (.var 20))
 (.and (.call 1 [.ex (.var 2), .ex (.var 3), .ex (.var 4), .ex (.var 5), .ex (.var 6), .ex (.var 7), .ex (.var 8), .ex (.var 9), .ex (.var 10), .ex (.var 11), .ex (.var 12), .ex (.var 13), .ex (.var 14), .ex (.var 16), .ex (.lit 1)] (.and (.call 0 [.var 1, .ex (.var 21), .ex (.var 18)] (.ext (.mk 5 [.ex (.var 2), .ex (.var 3), .ex (.var 4), .ex (.var 5), .ex (.var 6), .ex (.var 7), .ex (.var 8), .ex (.var 9), .ex (.var 10), .ex (.var 11), .ex (.var 12), .ex (.var 13), .ex (.var 14), .ex (.var 15), .ex (.var 16), .ex (.var 17), .ex (.var 18), .ex (.var 19), .ex (.bin .add .i64 (.var 20) (.lit 1))]) (.ret [.var 23, .var 22, .bx (.cmp .eql (.bin .add .i64 (.var 20) (.lit 1)) (.lit 4))]))) .ok)) .ok)
 (.br (.cmp .eql (.lit 2) (.var 20))
 (.and (.call 1 [.ex (.var 2), .ex (.var 3), .ex (.var 4), .ex (.var 5), .ex (.var 6), .ex (.var 7), .ex (.var 8), .ex (.var 9), .ex (.var 10), .ex (.var 11), .ex (.var 12), .ex (.var 13), .ex (.var 14), .ex (.var 16), .ex (.lit 2)] (.and (.call 0 [.var 1, .ex (.var 21), .ex (.var 19)] (.ext (.mk 5 [.ex (.var 2), .ex (.var 3), .ex (.var 4), .ex (.var 5), .ex (.var 6), .ex (.var 7), .ex (.var 8), .ex (.var 9), .ex (.var 10), .ex (.var 11), .ex (.var 12), .ex (.var 13), .ex (.var 14), .ex (.var 15), .ex (.var 16), .ex (.var 17), .ex (.var 18), .ex (.var 19), .ex (.bin .add .i64 (.var 20) (.lit 1))]) (.ret [.var 23, .var 22, .bx (.cmp .eql (.bin .add .i64 (.var 20) (.lit 1)) (.lit 4))]))) .ok)) .ok)
 (.br (.cmp .eql (.lit 3) (.var 20))
 (.and (.call 1 [.ex (.var 2), .ex (.var 3), .ex (.var 4), .ex (.var 5), .ex (.var 6), .ex (.var 7), .ex (.var 8), .ex (.var 9), .ex (.var 10), .ex (.var 11), .ex (.var 12), .ex (.var 13), .ex (.var 14), .ex (.var 16), .ex (.lit 3)] (.and (.call 0 [.var 1, .ex (.var 21), .ex (.lit 2)] (.ext (.mk 5 [.ex (.var 2), .ex (.var 3), .ex (.var 4), .ex (.var 5), .ex (.var 6), .ex (.var 7), .ex (.var 8), .ex (.var 9), .ex (.var 10), .ex (.var 11), .ex (.var 12), .ex (.var 13), .ex (.var 14), .ex (.var 15), .ex (.var 16), .ex (.var 17), .ex (.var 18), .ex (.var 19), .ex (.bin .add .i64 (.var 20) (.lit 1))]) (.ret [.var 23, .var 22, .bx (.cmp .eql (.bin .add .i64 (.var 20) (.lit 1)) (.lit 4))]))) .ok)) .ok)
 (.ext (.mk 5 [.ex (.var 2), .ex (.var 3), .ex (.var 4), .ex (.var 5), .ex (.var 6), .ex (.var 7), .ex (.var 8), .ex (.var 9), .ex (.var 10), .ex (.var 11), .ex (.var 12), .ex (.var 13), .ex (.var 14), .ex (.var 15), .ex (.var 16), .ex (.var 17), .ex (.var 18), .ex (.var 19), .ex (.bin .add .i64 (.var 20) (.lit 1))]) (.ret [.var 21, .var 1, .bx (.cmp .eql (.bin .add .i64 (.var 20) (.lit 1)) (.lit 4))]))))))))
 (.and (.opn 0 6 (.ext (.mk 6 [.ex (.var 2), .ex (.var 3)]) (.ret [.var 4, .var 1, .bx (.lit true)])))
 (.nomore 0 [5, 6])))
theorem rLayStep : runCtr { (cxYs Tryz.prog) with hints := hsLayStep } 20 cLayStep [(0, [5, 6])] [(0, [5, 6])] = tLayStep := by kernel_rfl

def hsQLayStep : List (Nat × Nat × List Nat) := []
def tQLayStep : Tree := (.and (.opn 0 8 (.and (.call 1 [.ex (.var 2), .ex (.var 3), .ex (.var 4), .ex (.var 5), .ex (.var 6), .ex (.var 7), .ex (.var 8), .ex (.var 9), .ex (.var 10), .ex (.var 11), .ex (.var 12), .ex (.var 13), .ex (.var 14), .ex (.var 18), .ex (.lit 0)] (.and (.call 0 [.var 1, .ex (.var 21), .ex (.var 17)] (.ext (.mk 9 [.ex (.var 2), .ex (.var 3), .ex (.var 4), .ex (.var 5), .ex (.var 6), .ex (.var 7), .ex (.var 8), .ex (.var 9), .ex (.var 10), .ex (.var 11), .ex (.var 12), .ex (.var 13), .ex (.var 14), .ex (.var 15), .ex (.var 15), .ex (.var 17), .ex (.var 18), .ex (.var 19), .ex (.var 20)]) (.ret [.var 23, .var 22, .bx (.lit false)]))) .ok)) .ok))
 (.and (.opn 0 9 (.and (.call 1 [.ex (.var 2), .ex (.var 3), .ex (.var 4), .ex (.var 5), .ex (.var 6), .ex (.var 7), .ex (.var 8), .ex (.var 9), .ex (.var 10), .ex (.var 11), .ex (.var 12), .ex (.var 13), .ex (.var 14), .ex (.var 18), .ex (.lit 1)] (.and (.call 0 [.var 1, .ex (.var 21), .ex (.conv .u64 (.var 19))] (.ext (.mk 10 [.ex (.var 2), .ex (.var 3), .ex (.var 4), .ex (.var 5), .ex (.var 6), .ex (.var 7), .ex (.var 8), .ex (.var 9), .ex (.var 10), .ex (.var 11), .ex (.var 12), .ex (.var 13), .ex (.var 14), .ex (.var 15), .ex (.var 15), .ex (.var 17), .ex (.var 18), .ex (.var 19), .ex (.var 20)]) (.ret [.var 23, .var 22, .bx (.lit false)]))) .ok)) .ok))
 (.and (.opn 0 10 (.and (.call 1 [.ex (.var 2), .ex (.var 3), .ex (.var 4), .ex (.var 5), .ex (.var 6), .ex (.var 7), .ex (.var 8), .ex (.var 9), .ex (.var 10), .ex (.var 11), .ex (.var 12), .ex (.var 13), .ex (.var 14), .ex (.var 18), .ex (.lit 2)] (.and (.call 0 [.var 1, .ex (.var 21), .ex (.conv .u64 (.var 20))] (.ext (.mk 11 [.ex (.var 2), .ex (.var 3), .ex (.var 4), .ex (.var 5), .ex (.var 6), .ex (.var 7), .ex (.var 8), .ex (.var 9), .ex (.var 10), .ex (.var 11), .ex (.var 12), .ex (.var 13), .ex (.var 14), .ex (.var 15), .ex (.var 15), .ex (.var 17), .ex (.var 18), .ex (.var 19), .ex (.var 20)]) (.ret [.var 23, .var 22, .bx (.lit false)]))) .ok)) .ok))
 (.and (.opn 0 11 (.and (.call 1 [.ex (.var 2), .ex (.var 3), .ex (.var 4), .ex (.var 5), .ex (.var 6), .ex (.var 7), .ex (.var 8), .ex (.var 9), .ex (.var 10), .ex (.var 11), .ex (.var 12), .ex (.var 13), .ex (.var 14), .ex (.var 18), .ex (.lit 3)] (.and (.call 0 [.var 1, .ex (.var 21), .ex (.lit 2)] (.ext (.mk 12 [.ex (.var 2), .ex (.var 3), .ex (.var 4), .ex (.var 5), .ex (.var 6), .ex (.var 7), .ex (.var 8), .ex (.var 9), .ex (.var 10), .ex (.var 11), .ex (.var 12), .ex (.var 13), .ex (.var 14), .ex (.var 15), .ex (.var 15), .ex (.var 17), .ex (.var 18), .ex (.var 19), .ex (.var 20), .ex (.lit 0)]) (.ret [.var 23, .var 22, .bx (.lit true)]))) .ok)) .ok))
 (.and (.opn 0 12 (.ext (.mk 12 [.ex (.var 2), .ex (.var 3), .ex (.var 4), .ex (.var 5), .ex (.var 6), .ex (.var 7), .ex (.var 8), .ex (.var 9), .ex (.var 10), .ex (.var 11), .ex (.var 12), .ex (.var 13), .ex (.var 14), .ex (.var 15), .ex (.var 15), .ex (.var 17), .ex (.var 18), .ex (.var 19), .ex (.var 20), .ex (.var 21)]) (.ret [.var 22, .var 1, .bx (.lit true)])))
 (.nomore 0 [8, 9, 10, 11, 12]))))))
theorem rQLayStep : runCtr { (cxYt Tryz.prog) with hints := hsQLayStep } 20 cQLayStep [(0, [8, 9, 10, 11, 12])] [(0, [8, 9, 10, 11, 12])] = tQLayStep := by kernel_rfl

def hsLayErr : List (Nat × Nat × List Nat) := []
def tLayErr : Tree := (.and (.opn 0 5 (.br (.cmp .eql (.var 19) (.lit 4))
 (.ext (.mk 5 [.ex (.var 1), .ex (.var 2), .ex (.var 3), .ex (.var 4), .ex (.var 5), .ex (.var 6), .ex (.var 7), .ex (.var 8), .ex (.var 9), .ex (.var 10), .ex (.var 11), .ex (.var 12), .ex (.var 13), .ex (.var 14), .ex (.var 15), .ex (.var 16), .ex (.var 17), .ex (.var 18), .ex (.var 19)]) (.ret [.var 20, .ex (.lit 0)]))
 (.ext (.mk 5 [.ex (.var 1), .ex (.var 2), .ex (.var 3), .ex (.var 4), .ex (.var 5), .ex (.var 6), .ex (.var 7), .ex (.var 8), .ex (.var 9), .ex (.var 10), .ex (.var 11), .ex (.var 12), .ex (.var 13), .ex (.var 14), .ex (.var 15), .ex (.var 16), .ex (.var 17), .ex (.var 18), .ex (.var 19)]) (.ret [.var 20, .ex (.lit 14)]))))
 (.and (.opn 0 6 (.ext (.mk 6 [.ex (.var 1), .ex (.var 2)]) (.ret [.var 3, .ex (.var 2)])))
 (.nomore 0 [5, 6])))
theorem rLayErr : runCtr { (cxYi Tryz.prog) with hints := hsLayErr } 20 cLayErr [(0, [5, 6])] [(0, [5, 6])] = tLayErr := by kernel_rfl

def hsQLayErr : List (Nat × Nat × List Nat) := []
def tQLayErr : Tree := (.and (.opn 0 8 (.ext (.mk 8 [.ex (.var 1), .ex (.var 2), .ex (.var 3), .ex (.var 4), .ex (.var 5), .ex (.var 6), .ex (.var 7), .ex (.var 8), .ex (.var 9), .ex (.var 10), .ex (.var 11), .ex (.var 12), .ex (.var 13), .ex (.var 14), .ex (.var 15), .ex (.var 16), .ex (.var 17), .ex (.var 18), .ex (.var 19)]) (.ret [.var 20, .ex (.lit 14)])))
 (.and (.opn 0 9 (.ext (.mk 9 [.ex (.var 1), .ex (.var 2), .ex (.var 3), .ex (.var 4), .ex (.var 5), .ex (.var 6), .ex (.var 7), .ex (.var 8), .ex (.var 9), .ex (.var 10), .ex (.var 11), .ex (.var 12), .ex (.var 13), .ex (.var 14), .ex (.var 15), .ex (.var 16), .ex (.var 17), .ex (.var 18), .ex (.var 19)]) (.ret [.var 20, .ex (.lit 14)])))
 (.and (.opn 0 10 (.ext (.mk 10 [.ex (.var 1), .ex (.var 2), .ex (.var 3), .ex (.var 4), .ex (.var 5), .ex (.var 6), .ex (.var 7), .ex (.var 8), .ex (.var 9), .ex (.var 10), .ex (.var 11), .ex (.var 12), .ex (.var 13), .ex (.var 14), .ex (.var 15), .ex (.var 16), .ex (.var 17), .ex (.var 18), .ex (.var 19)]) (.ret [.var 20, .ex (.lit 14)])))
 (.and (.opn 0 11 (.ext (.mk 11 [.ex (.var 1), .ex (.var 2), .ex (.var 3), .ex (.var 4), .ex (.var 5), .ex (.var 6), .ex (.var 7), .ex (.var 8), .ex (.var 9), .ex (.var 10), .ex (.var 11), .ex (.var 12), .ex (.var 13), .ex (.var 14), .ex (.var 15), .ex (.var 16), .ex (.var 17), .ex (.var 18), .ex (.var 19)]) (.ret [.var 20, .ex (.lit 14)])))
 (.and (.opn 0 12 (.ext (.mk 12 [.ex (.var 1), .ex (.var 2), .ex (.var 3), .ex (.var 4), .ex (.var 5), .ex (.var 6), .ex (.var 7), .ex (.var 8), .ex (.var 9), .ex (.var 10), .ex (.var 11), .ex (.var 12), .ex (.var 13), .ex (.var 14), .ex (.var 15), .ex (.var 16), .ex (.var 17), .ex (.var 18), .ex (.var 19), .ex (.var 20)]) (.ret [.var 21, .ex (.var 20)])))
 (.nomore 0 [8, 9, 10, 11, 12]))))))
theorem rQLayErr : runCtr { (cxYi Tryz.prog) with hints := hsQLayErr } 20 cQLayErr [(0, [8, 9, 10, 11, 12])] [(0, [8, 9, 10, 11, 12])] = tQLayErr := by kernel_rfl

def hsLayBy : List (Nat × Nat × List Nat) := []
def tLayBy : Tree := (.and (.opn 0 5 (.br (.cmp .eql (.var 19) (.lit 0))
 (.ext (.mk 5 [.ex (.var 1), .ex (.var 2), .ex (.var 3), .ex (.var 4), .ex (.var 5), .ex (.var 6), .ex (.var 7), .ex (.var 8), .ex (.var 9), .ex (.var 10), .ex (.var 11), .ex (.var 12), .ex (.var 13), .ex (.var 14), .ex (.var 15), .ex (.var 16), .ex (.var 17), .ex (.var 18), .ex (.var 19)]) (.ret [.var 20, .ex (.lit 0)]))
 (.ext (.mk 5 [.ex (.var 1), .ex (.var 2), .ex (.var 3), .ex (.var 4), .ex (.var 5), .ex (.var 6), .ex (.var 7), .ex (.var 8), .ex (.var 9), .ex (.var 10), .ex (.var 11), .ex (.var 12), .ex (.var 13), .ex (.var 14), .ex (.var 15), .ex (.var 16), .ex (.var 17), .ex (.var 18), .ex (.var 19)]) (.ret [.var 20, .ex (.var 14)]))))
 (.and (.opn 0 6 (.br (.cmp .eql (.var 2) (.lit 0))
 (.ext (.mk 6 [.ex (.var 1), .ex (.var 2)]) (.ret [.var 3, .ex (.var 1)]))
 (.ext (.mk 6 [.ex (.var 1), .ex (.var 2)]) (.ret [.var 3, .ex (.lit 0)]))))
 (.nomore 0 [5, 6])))
theorem rLayBy : runCtr { (cxYi Tryz.prog) with hints := hsLayBy } 20 cLayBy [(0, [5, 6])] [(0, [5, 6])] = tLayBy := by kernel_rfl

def hsQLayBy : List (Nat × Nat × List Nat) := []
def tQLayBy : Tree := (.and (.opn 0 8 (.ext (.mk 8 [.ex (.var 1), .ex (.var 2), .ex (.var 3), .ex (.var 4), .ex (.var 5), .ex (.var 6), .ex (.var 7), .ex (.var 8), .ex (.var 9), .ex (.var 10), .ex (.var 11), .ex (.var 12), .ex (.var 13), .ex (.var 14), .ex (.var 15), .ex (.var 16), .ex (.var 17), .ex (.var 18), .ex (.var 19)]) (.ret [.var 20, .ex (.var 15)])))
 (.and (.opn 0 9 (.ext (.mk 9 [.ex (.var 1), .ex (.var 2), .ex (.var 3), .ex (.var 4), .ex (.var 5), .ex (.var 6), .ex (.var 7), .ex (.var 8), .ex (.var 9), .ex (.var 10), .ex (.var 11), .ex (.var 12), .ex (.var 13), .ex (.var 14), .ex (.var 15), .ex (.var 16), .ex (.var 17), .ex (.var 18), .ex (.var 19)]) (.ret [.var 20, .ex (.var 15)])))
 (.and (.opn 0 10 (.ext (.mk 10 [.ex (.var 1), .ex (.var 2), .ex (.var 3), .ex (.var 4), .ex (.var 5), .ex (.var 6), .ex (.var 7), .ex (.var 8), .ex (.var 9), .ex (.var 10), .ex (.var 11), .ex (.var 12), .ex (.var 13), .ex (.var 14), .ex (.var 15), .ex (.var 16), .ex (.var 17), .ex (.var 18), .ex (.var 19)]) (.ret [.var 20, .ex (.var 15)])))
 (.and (.opn 0 11 (.ext (.mk 11 [.ex (.var 1), .ex (.var 2), .ex (.var 3), .ex (.var 4), .ex (.var 5), .ex (.var 6), .ex (.var 7), .ex (.var 8), .ex (.var 9), .ex (.var 10), .ex (.var 11), .ex (.var 12), .ex (.var 13), .ex (.var 14), .ex (.var 15), .ex (.var 16), .ex (.var 17), .ex (.var 18), .ex (.var 19)]) (.ret [.var 20, .ex (.var 15)])))
 (.and (.opn 0 12 (.ext (.mk 12 [.ex (.var 1), .ex (.var 2), .ex (.var 3), .ex (.var 4), .ex (.var 5), .ex (.var 6), .ex (.var 7), .ex (.var 8), .ex (.var 9), .ex (.var 10), .ex (.var 11), .ex (.var 12), .ex (.var 13), .ex (.var 14), .ex (.var 15), .ex (.var 16), .ex (.var 17), .ex (.var 18), .ex (.var 19), .ex (.var 20)]) (.ret [.var 21, .ex (.var 15)])))
 (.nomore 0 [8, 9, 10, 11, 12]))))))
theorem rQLayBy : runCtr { (cxYi Tryz.prog) with hints := hsQLayBy } 20 cQLayBy [(0, [8, 9, 10, 11, 12])] [(0, [8, 9, 10, 11, 12])] = tQLayBy := by kernel_rfl

end Go.Proofs.YtbmbiiiacajolaaGreat
/- Lays: the contracts hold (printed by gen_ya.py). -/
namespace Go.Proofs.YtbmbiiiacajolaaGreat
set_option linter.unusedVariables false
set_option linter.unusedSimpArgs false
set_option linter.unusedSectionVars false
open Go Go.RowKit

theorem refO_ok {w : Int} (h : refOk w = true) : refO w = [.i (w % 65536 - 1), .i (w / 65536 % 4294967296), .b (decide (w / 9223372036854775808 = 1)), .i 0] := by unfold refO; rw [h]; rfl
theorem refO_no {w : Int} (h : refOk w = false) : refO w = [.i 0, .i 0, .b false, .i 5] := by unfold refO; rw [h]; rfl
theorem out_getRef (w : Int) : cGetRef.out [.i w] = refO w := rfl
theorem out_rgetRef (w : Int) : cRGetRef.out [.i w] = refO w := rfl
theorem out_idxP (a0 a1 a2 a3 a4 a5 a6 a7 a8 a9 a10 a11 a12 w : Int) : cIdxP.out [.i a0, .i a1, .i a2, .i a3, .i a4, .i a5, .i a6, .i a7, .i a8, .i a9, .i a10, .i a11, .i a12, .i w] = [.i (idxW a5 w)] := rfl
theorem out_idxQ (a0 a1 a2 a3 a4 a5 a6 a7 a8 a9 a10 a11 a12 w : Int) : cIdxQ.out [.i a0, .i a1, .i a2, .i a3, .i a4, .i a5, .i a6, .i a7, .i a8, .i a9, .i a10, .i a11, .i a12, .i w] = [.i (idxW a5 w)] := rfl
theorem out_atP (a0 a1 a2 a3 a4 a5 a6 a7 a8 a9 a10 a11 a12 i p : Int) : cAt.out [.i a0, .i a1, .i a2, .i a3, .i a4, .i a5, .i a6, .i a7, .i a8, .i a9, .i a10, .i a11, .i a12, .i i, .i p] = [.i (atT a0 a1 a2 a5 i p)] := rfl
theorem out_atQ (a0 a1 a2 a3 a4 a5 a6 a7 a8 a9 a10 a11 a12 i p : Int) : cRAt.out [.i a0, .i a1, .i a2, .i a3, .i a4, .i a5, .i a6, .i a7, .i a8, .i a9, .i a10, .i a11, .i a12, .i i, .i p] = [.i (atT a0 a1 a2 a5 i p)] := rfl
theorem pre_idx (a0 a1 a2 a3 a4 a5 a6 a7 a8 a9 a10 a11 a12 : Int) {w : Int} (h : isW w) : ∃ b0 b1 b2 b3 b4 b5 b6 b7 b8 b9 b10 b11 b12 v : Int, ([.i a0, .i a1, .i a2, .i a3, .i a4, .i a5, .i a6, .i a7, .i a8, .i a9, .i a10, .i a11, .i a12, .i w] : List (EV U)) = [.i b0, .i b1, .i b2, .i b3, .i b4, .i b5, .i b6, .i b7, .i b8, .i b9, .i b10, .i b11, .i b12, .i v] ∧ isW v := ⟨_, _, _, _, _, _, _, _, _, _, _, _, _, _, rfl, h⟩

theorem vIdxP (P : Program) (hs : List (Nat × Nat × List Nat)) : ∀ ins, ins.length = cIdxP.nin → cIdxP.pre ins → tIdxP.sat { cxYi P with hints := hs } (ctrR cIdxP) ins := by
  intro ins _ hp
  obtain ⟨a0, a1, a2, a3, a4, a5, a6, a7, a8, a9, a10, a11, a12, w, hi, hw⟩ := hp
  subst hi
  obtain ⟨h0, h1⟩ := hw
  have g6 : w.tmod 65536 = w % 65536 := Int.tmod_eq_emod_of_nonneg h0
  have g7 : IntKind.u64.wrap (w % 65536) = w % 65536 := wrapX (by omega) (by omega)
  obtain ⟨g1, g2, g3, g4, g5⟩ := refT w h0 h1
  obtain ⟨b1, b2, _⟩ := refL w h0 h1
  have g1' : w.fdiv (2 ^ min (Int.toNat 0) IntKind.u64.bits) = w := g1
  have g4' : bits .and .u64 w 65535 = w % 65536 := g4
  clear g2 g3 g5
  have ho : ∀ o, o = [EV.i (idxW a5 w)] → ctrR cIdxP [.i a0, .i a1, .i a2, .i a3, .i a4, .i a5, .i a6, .i a7, .i a8, .i a9, .i a10, .i a11, .i a12, .i w] o := fun o h => by subst h; rfl
  simp only [tIdxP, Tree.sat, Bx.den, Ex.den, Bnd.den, gI, List.map_cons, List.map_nil, List.getElem?_cons_zero, List.getElem?_cons_succ, List.getD, Option.getD_some, binDen, cmp_geq_t, cmp_geq_f, g1', g4', g6, g7, b1, b2]
  clear g1 g4 g1' g4' g6 g7 b1 b2
  repeat' (first | apply And.intro | intro _)
  all_goals first
    | trivial
    | exact ho _ (by rw [idxW, if_pos (by omega)])
    | exact ho _ (by rw [idxW, if_neg (by omega)])
theorem hIdxP : cIdxP.Holds objs Tryz.prog := runCtr_holds (X := { cxYi Tryz.prog with hints := hsIdxP }) objsOk mixed noCts (callable _ Tryz.func96 (by kernel_rfl) (by kernel_rfl)) (by rintro ins _ ⟨_, _, _, _, _, _, _, _, _, _, _, _, _, _, rfl, _⟩; rfl) (by rw [rIdxP]; exact vIdxP _ _)
theorem vIdxQ (P : Program) (hs : List (Nat × Nat × List Nat)) : ∀ ins, ins.length = cIdxQ.nin → cIdxQ.pre ins → tIdxQ.sat { cxYi P with hints := hs } (ctrR cIdxQ) ins := by
  intro ins _ hp
  obtain ⟨a0, a1, a2, a3, a4, a5, a6, a7, a8, a9, a10, a11, a12, w, hi, hw⟩ := hp
  subst hi
  obtain ⟨h0, h1⟩ := hw
  have g6 : w.tmod 65536 = w % 65536 := Int.tmod_eq_emod_of_nonneg h0
  have g7 : IntKind.u64.wrap (w % 65536) = w % 65536 := wrapX (by omega) (by omega)
  obtain ⟨g1, g2, g3, g4, g5⟩ := refT w h0 h1
  obtain ⟨b1, b2, _⟩ := refL w h0 h1
  have g1' : w.fdiv (2 ^ min (Int.toNat 0) IntKind.u64.bits) = w := g1
  have g4' : bits .and .u64 w 65535 = w % 65536 := g4
  clear g2 g3 g5
  have ho : ∀ o, o = [EV.i (idxW a5 w)] → ctrR cIdxQ [.i a0, .i a1, .i a2, .i a3, .i a4, .i a5, .i a6, .i a7, .i a8, .i a9, .i a10, .i a11, .i a12, .i w] o := fun o h => by subst h; rfl
  simp only [tIdxQ, Tree.sat, Bx.den, Ex.den, Bnd.den, gI, List.map_cons, List.map_nil, List.getElem?_cons_zero, List.getElem?_cons_succ, List.getD, Option.getD_some, binDen, cmp_geq_t, cmp_geq_f, g1', g4', g6, g7, b1, b2]
  clear g1 g4 g1' g4' g6 g7 b1 b2
  repeat' (first | apply And.intro | intro _)
  all_goals first
    | trivial
    | exact ho _ (by rw [idxW, if_pos (by omega)])
    | exact ho _ (by rw [idxW, if_neg (by omega)])
theorem hIdxQ : cIdxQ.Holds objs Tryz.prog := runCtr_holds (X := { cxYi Tryz.prog with hints := hsIdxQ }) objsOk mixed noCts (callable _ Tryz.func100 (by kernel_rfl) (by kernel_rfl)) (by rintro ins _ ⟨_, _, _, _, _, _, _, _, _, _, _, _, _, _, rfl, _⟩; rfl) (by rw [rIdxQ]; exact vIdxQ _ _)

theorem newLay_ok {t : List Int} {n h a s r k j g : Int} (e : refusedL n h a s r j g = 0) : newLay t n h a s r k j g = ⟨t, r, idxW s r, k, j, g, 0, 0, 0⟩ := by unfold newLay; rw [if_pos e]
theorem newLay_no {t : List Int} {n h a s r k j g x : Int} (e : refusedL n h a s r j g = x) (hx : ¬ x = 0) : newLay t n h a s r k j g = ⟨[], 0, 0, 0, 0, 0, 9, x, 0⟩ := by unfold newLay; rw [e, if_neg hx]
theorem rf_2 {n h a s r j g : Int} (e : okT n h a s = false) : refusedL n h a s r j g = 2 := by unfold refusedL; rw [if_pos e]
theorem rf_5 {n h a s r j g : Int} (e : okT n h a s = true) (e1 : refOk r = false) : refusedL n h a s r j g = 5 := by unfold refusedL; rw [e, if_neg (by decide), if_pos e1]
theorem rf_3 {n h a s r j g : Int} (e : okT n h a s = true) (e1 : refOk r = true) (c : r % 65536 - 1 < 0 ∨ r / 9223372036854775808 = 1 ∨ s ≤ r % 65536 - 1 ∨ j < 0 ∨ 65534 < j ∨ g < 1 ∨ a < g) : refusedL n h a s r j g = 3 := by unfold refusedL; rw [e, e1, if_neg (by decide), if_neg (by decide), if_pos c]
theorem rf_0 {n h a s r j g : Int} (e : okT n h a s = true) (e1 : refOk r = true) (c : ¬ (r % 65536 - 1 < 0 ∨ r / 9223372036854775808 = 1 ∨ s ≤ r % 65536 - 1 ∨ j < 0 ∨ 65534 < j ∨ g < 1 ∨ a < g)) : refusedL n h a s r j g = 0 := by unfold refusedL; rw [e, e1, if_neg (by decide), if_neg (by decide), if_neg c]
theorem okT_a {n h a s : Int} (e : okT n h a s = true) : 1 ≤ a ∧ a ≤ 4 ∧ 1 ≤ s ∧ s ≤ 128 ∧ 0 ≤ n ∧ n < 4096 ∧ 0 ≤ h ∧ h < 4096 := by unfold okT at e; exact of_decide_eq_true e
set_option maxHeartbeats 1000000 in
theorem vNewLay (P : Program) (hs : List (Nat × Nat × List Nat)) : ∀ ins, ins.length = cNewLay.nin → cNewLay.pre ins → tNewLay.sat { cxYn P with hints := hs } (ctrR cNewLay) ins := by
  rintro ins _ ⟨a0, a1, a2, a3, a4, a5, a6, a7, a8, a9, a10, a11, a12, r, k, j, h, rfl, hw⟩
  cases hr : refOk r <;> cases ht : okT a0 a1 a2 a5 <;> (try have ha := okT_a ht) <;>
  unfold tNewLay <;>
  repeat' (first
    | (first
      | (with_reducible refine st_need ?_ ?_
         focus (simp only [dn, reduceCtorEq, hr, ht, decide_eq_true_eq, decide_eq_false_iff_not] <;> first | omega | assumption))
      | (with_reducible refine st_and ?_ ?_)
      | (with_reducible exact st_ok)
      | (with_reducible refine st_br (fun hc => ?_) (fun hc => ?_) <;> (simp only [dn, reduceCtorEq, hr, ht, decide_eq_true_eq, decide_eq_false_iff_not] at hc) <;> (try (exfalso; first | contradiction | omega)))
      | (refine st_call (by rfl) (by simp only [dn, reduceCtorEq, hr, ht, decide_eq_true_eq, decide_eq_false_iff_not] <;> rfl) ?_ (by simp only [out_getRef, out_rgetRef, out_Snd15, out_DSnd, out_idxP, out_idxQ, refO, hr, reduceIte, Bool.false_eq_true] <;> rfl) (by simp only [dn] <;> rfl) ?_
         focus (first | exact ⟨_, rfl, hw⟩ | exact ⟨_, _, _, _, _, _, _, _, _, _, _, _, _, _, rfl, hw⟩ | exact ⟨_, _, _, _, _, _, _, _, _, _, _, _, _, rfl⟩)))
    | (refine st_mk (by rfl) (by simp only [dn, reduceCtorEq, hr] <;> rfl) ?_ (by simp only [dn] <;> rfl) ?_
       focus first
         | exact ⟨_, _, rfl, by decide⟩
         | exact ⟨_, _, _, _, _, _, _, _, _, _, _, _, _, _, _, _, _, _, _, rfl, by decide, by decide⟩)
    | (refine st_ret (by simp only [dn, reduceCtorEq, hr] <;> rfl) ?_
       show _ = [EV.u (U.lay (newLay [a0, a1, a2, a3, a4, a5, a6, a7, a8, a9, a10, a11, a12] a0 a1 a2 a5 r k j h))]
       first
         | (rw [newLay_no (rf_2 ht) (by decide)]; rfl)
         | (rw [newLay_no (rf_5 ht hr) (by decide)]; rfl)
         | (rw [newLay_no (rf_3 ht hr (by omega)) (by decide)]; rfl)
         | (rw [newLay_ok (rf_0 ht hr (by omega))]; show [EV.u (U.lay ⟨[a0, a1, a2, a3, a4, a5, a6, a7, a8, a9, a10, a11, a12], r, idxW a5 r, k, IntKind.u64.wrap j, IntKind.u64.wrap h, 0, 0, 0⟩)] = _; rw [wrapX (n := j) (by omega) (by omega), wrapX (n := h) (by omega) (by omega)]; try rfl))
    | fail "no step")
theorem hNewLay : cNewLay.Holds objs Tryz.prog := runCtr_holds (X := { cxYn Tryz.prog with hints := hsNewLay }) objsOk mixed (by
  intro ci c h
  match ci, h with
  | 0, h => cases h; exact hSnd15
  | 1, h => cases h; exact hGetRef
  | 2, h => cases h; exact hIdxP
  | n + 3, h => cases h) (callable _ Tryz.func27 (by kernel_rfl) (by kernel_rfl)) (by rintro ins _ ⟨_, _, _, _, _, _, _, _, _, _, _, _, _, _, _, _, _, rfl, _⟩; rfl) (by rw [rNewLay]; exact vNewLay _ _)
set_option maxHeartbeats 1000000 in
theorem vQNewLay (P : Program) (hs : List (Nat × Nat × List Nat)) : ∀ ins, ins.length = cQNewLay.nin → cQNewLay.pre ins → tQNewLay.sat { cxYq P with hints := hs } (ctrR cQNewLay) ins := by
  rintro ins _ ⟨a0, a1, a2, a3, a4, a5, a6, a7, a8, a9, a10, a11, a12, r, k, j, h, rfl, hw⟩
  cases hr : refOk r <;> cases ht : okT a0 a1 a2 a5 <;> (try have ha := okT_a ht) <;>
  unfold tQNewLay <;>
  repeat' (first
    | (first
      | (with_reducible refine st_need ?_ ?_
         focus (simp only [dn, reduceCtorEq, hr, ht, decide_eq_true_eq, decide_eq_false_iff_not] <;> first | omega | assumption))
      | (with_reducible refine st_and ?_ ?_)
      | (with_reducible exact st_ok)
      | (with_reducible refine st_br (fun hc => ?_) (fun hc => ?_) <;> (simp only [dn, reduceCtorEq, hr, ht, decide_eq_true_eq, decide_eq_false_iff_not] at hc) <;> (try (exfalso; first | contradiction | omega)))
      | (refine st_call (by rfl) (by simp only [dn, reduceCtorEq, hr, ht, decide_eq_true_eq, decide_eq_false_iff_not] <;> rfl) ?_ (by simp only [out_getRef, out_rgetRef, out_Snd15, out_DSnd, out_idxP, out_idxQ, refO, hr, reduceIte, Bool.false_eq_true] <;> rfl) (by simp only [dn] <;> rfl) ?_
         focus (first | exact ⟨_, rfl, hw⟩ | exact ⟨_, _, _, _, _, _, _, _, _, _, _, _, _, _, rfl, hw⟩ | exact ⟨_, _, _, _, _, _, _, _, _, _, _, _, _, rfl⟩)))
    | (refine st_mk (by rfl) (by simp only [dn, reduceCtorEq, hr] <;> rfl) ?_ (by simp only [dn] <;> rfl) ?_
       focus first
         | exact ⟨_, _, _, _, _, _, _, _, _, _, _, _, _, _, _, _, _, _, _, _, rfl, .inr ⟨by decide, rfl, rfl⟩⟩
         | exact ⟨_, _, _, _, _, _, _, _, _, _, _, _, _, _, _, _, _, _, _, rfl, by omega, by omega, by omega, by omega⟩)
    | (refine st_ret (by simp only [dn, reduceCtorEq, hr] <;> rfl) ?_
       show _ = [EV.u (U.rlay (newLay [a0, a1, a2, a3, a4, a5, a6, a7, a8, a9, a10, a11, a12] a0 a1 a2 a5 r k j h))]
       first
         | (rw [newLay_no (rf_2 ht) (by decide)]; rfl)
         | (rw [newLay_no (rf_5 ht hr) (by decide)]; rfl)
         | (rw [newLay_no (rf_3 ht hr (by omega)) (by decide)]; rfl)
         | (rw [newLay_ok (rf_0 ht hr (by omega))]; try rfl))
    | fail "no step")
theorem hQNewLay : cQNewLay.Holds objs Tryz.prog := runCtr_holds (X := { cxYq Tryz.prog with hints := hsQNewLay }) objsOk mixed (by
  intro ci c h
  match ci, h with
  | 0, h => cases h; exact hDSnd
  | 1, h => cases h; exact hRGetRef
  | 2, h => cases h; exact hIdxQ
  | n + 3, h => cases h) (callable _ Tryz.func28 (by kernel_rfl) (by kernel_rfl)) (by rintro ins _ ⟨_, _, _, _, _, _, _, _, _, _, _, _, _, _, _, _, _, rfl, _⟩; rfl) (by rw [rQNewLay]; exact vQNewLay _ _)
theorem nomore_lay {L : LaySt} : ∀ (t : Nat) (T : ObjT U) (ps : List (EV U)), objs[t]? = some T → t ∉ [5, 6] → ps.length = T.nv → T.ok ps → some (EV.u (U.lay L)) ≠ some (EV.u (T.obj ps)) :=
  nomore_kind (by show ∀ t, t < 14 → t ∉ [5, 6] → kinds.getD t 0 ≠ 6; decide)
theorem nomore_rlay {L : LaySt} : ∀ (t : Nat) (T : ObjT U) (ps : List (EV U)), objs[t]? = some T → t ∉ [8, 9, 10, 11, 12] → ps.length = T.nv → T.ok ps → some (EV.u (U.rlay L)) ≠ some (EV.u (T.obj ps)) :=
  nomore_kind (by show ∀ t, t < 14 → t ∉ [8, 9, 10, 11, 12] → kinds.getD t 0 ≠ 8; decide)
section
variable {k : Tree} {env : List (EV U)} {X : Cx U} {R : List (EV U) → List (EV U) → Prop}
theorem st_opn {i t : Nat} {T : ObjT U} (hT : X.objs[t]? = some T) (hk : ∀ ps, ps.length = T.nv → T.ok ps → env[i]? = some (.u (T.obj ps)) → k.sat X R (env ++ ps)) : (Tree.opn i t k).sat X R env := by
  simp only [Tree.sat, hT]
  exact hk
end
end Go.Proofs.YtbmbiiiacajolaaGreat
/- Lays: the operations' contracts hold (printed by gen_yaw.py). -/
namespace Go.Proofs.YtbmbiiiacajolaaGreat
set_option linter.unusedVariables false
set_option linter.unusedSimpArgs false
set_option linter.unusedSectionVars false
open Go Go.RowKit

theorem lay_ok9 {t : List Int} {r i k j h b : Int} (g : LaySt.ok ⟨t, r, i, k, j, h, 9, 0, b⟩) : b = r := by
  rcases g with ⟨_, _, _, _, _, _, _, _, _, _, _, _, _, _, _, _, _, _, _, _, ⟨e, g, _⟩ | ⟨x, e1, e2⟩⟩
  · injection e with _ e1 _ _ _ _ e2 _ e3
    omega
  · injection e1 with _ _ _ _ _ _ _ e3
    exact absurd e3.symm e2
set_option maxHeartbeats 2000000 in
theorem vLayStep (P : Program) (hs : List (Nat × Nat × List Nat)) : ∀ ins, ins.length = cLayStep.nin → cLayStep.pre ins → tLayStep.sat { cxYs P with hints := hs } (ctrR cLayStep) ins := by
  rintro ins _ ⟨L, M, rfl, hL⟩
  unfold tLayStep
  refine st_and (st_opn (T := layA) (by rfl) ?_) (st_and (st_opn (T := layR) (by rfl) ?_) nomore_lay)
  · rintro ps hl ⟨a0, a1, a2, a3, a4, a5, a6, a7, a8, a9, a10, a11, a12, r, i, k, j, h, d, rfl, hd0, hd1⟩ he
    simp only [List.getElem?_cons_zero, layA, layAObj, Option.some.injEq, EV.u.injEq, U.lay.injEq] at he
    subst he
    simp only [List.cons_append, List.nil_append]
    have hd : d = 0 ∨ d = 1 ∨ d = 2 ∨ d = 3 ∨ d = 4 := by omega
    have he0 : ∀ x : Int, 0 ≤ x → x ≤ 4 → IntKind.i64.wrap (x + 1) = x + 1 := fun x g0 g1 => wrap_small (by omega) (by omega)
    have he1 := he0 d hd0 hd1
    clear he0
    rcases hd with rfl | rfl | rfl | rfl | rfl
    all_goals
      repeat' (first
          | (first
            | (with_reducible refine st_need ?_ ?_
               focus (simp only [dn, reduceCtorEq, he1] <;> first | omega | assumption))
            | (with_reducible refine st_and ?_ ?_)
            | (with_reducible exact st_ok)
            | (with_reducible refine st_br (fun hc => ?_) (fun hc => ?_) <;> (simp only [dn, reduceCtorEq, he1] at hc) <;> (try (exfalso; first | contradiction | omega)))
            | (refine st_call (by rfl) (by simp only [dn, reduceCtorEq, he1] <;> rfl) ?_ (by simp only [out_atP, out_atQ, out_store, fo_store] <;> rfl) (by simp only [dn] <;> rfl) ?_
               focus (first | exact ⟨_, _, _, _, _, _, _, _, _, _, _, _, _, _, _, rfl⟩ | exact ⟨_, _, _, rfl⟩)))
          | (refine st_mk (by rfl) (by simp only [dn, reduceCtorEq, he1] <;> rfl) ?_ (by simp only [dn] <;> rfl) ?_
             focus exact ⟨_, _, _, _, _, _, _, _, _, _, _, _, _, _, _, _, _, _, _, rfl, by omega, by omega⟩)
          | (refine st_ret (by simp only [dn, reduceCtorEq, he1] <;> rfl) ?_
             rfl)
          | fail "no step")
  · rintro ps hl ⟨r, e, rfl, hx⟩ he
    simp only [List.getElem?_cons_zero, layR, layRObj, Option.some.injEq, EV.u.injEq, U.lay.injEq] at he
    subst he
    simp only [List.cons_append, List.nil_append]
    repeat' (first
      | (first
        | (with_reducible refine st_need ?_ ?_
           focus (simp only [dn, reduceCtorEq, hx] <;> first | omega | assumption))
        | (with_reducible refine st_and ?_ ?_)
        | (with_reducible exact st_ok)
        | (with_reducible refine st_br (fun hc => ?_) (fun hc => ?_) <;> (simp only [dn, reduceCtorEq, hx] at hc) <;> (try (exfalso; first | contradiction | omega)))
        | (refine st_call (by rfl) (by simp only [dn, reduceCtorEq, hx] <;> rfl) ?_ (by simp only [out_atP, out_atQ, out_store, fo_store] <;> rfl) (by simp only [dn] <;> rfl) ?_
           focus (first | exact ⟨_, _, _, _, _, _, _, _, _, _, _, _, _, _, _, rfl⟩ | exact ⟨_, _, _, rfl⟩)))
      | (refine st_mk (by rfl) (by simp only [dn, reduceCtorEq, hx] <;> rfl) ?_ (by simp only [dn] <;> rfl) ?_
         focus exact ⟨_, _, rfl, hx⟩)
      | (refine st_ret (by simp only [dn, reduceCtorEq, hx] <;> rfl) ?_
         rfl)
      | fail "no step")
theorem hLayStep : cLayStep.Holds objs Tryz.prog := runCtr_holds (X := { cxYs Tryz.prog with hints := hsLayStep }) objsOk mixed (by
  intro ci c h
  match ci, h with
  | 0, h => cases h; exact hStore
  | 1, h => cases h; exact hAt
  | n + 2, h => cases h) (callable _ Tryz.func29 (by kernel_rfl) (by kernel_rfl)) (by rintro ins _ ⟨_, M, rfl, _⟩; rfl) (by rw [rLayStep]; exact vLayStep _ _)
set_option maxHeartbeats 2000000 in
theorem vLayErr (P : Program) (hs : List (Nat × Nat × List Nat)) : ∀ ins, ins.length = cLayErr.nin → cLayErr.pre ins → tLayErr.sat { cxYi P with hints := hs } (ctrR cLayErr) ins := by
  rintro ins _ ⟨L, rfl, hL⟩
  unfold tLayErr
  refine st_and (st_opn (T := layA) (by rfl) ?_) (st_and (st_opn (T := layR) (by rfl) ?_) nomore_lay)
  · rintro ps hl ⟨a0, a1, a2, a3, a4, a5, a6, a7, a8, a9, a10, a11, a12, r, i, k, j, h, d, rfl, hd0, hd1⟩ he
    simp only [List.getElem?_cons_zero, layA, layAObj, Option.some.injEq, EV.u.injEq, U.lay.injEq] at he
    subst he
    simp only [List.cons_append, List.nil_append]
    have hd : d = 0 ∨ d = 1 ∨ d = 2 ∨ d = 3 ∨ d = 4 := by omega
    have he0 : ∀ x : Int, 0 ≤ x → x ≤ 4 → IntKind.i64.wrap (x + 1) = x + 1 := fun x g0 g1 => wrap_small (by omega) (by omega)
    have he1 := he0 d hd0 hd1
    clear he0
    rcases hd with rfl | rfl | rfl | rfl | rfl
    all_goals
      repeat' (first
          | (first
            | (with_reducible refine st_need ?_ ?_
               focus (simp only [dn, reduceCtorEq, he1] <;> first | omega | assumption))
            | (with_reducible refine st_and ?_ ?_)
            | (with_reducible exact st_ok)
            | (with_reducible refine st_br (fun hc => ?_) (fun hc => ?_) <;> (simp only [dn, reduceCtorEq, he1] at hc) <;> (try (exfalso; first | contradiction | omega)))
            | (refine st_call (by rfl) (by simp only [dn, reduceCtorEq, he1] <;> rfl) ?_ (by simp only [out_atP, out_atQ, out_store, fo_store] <;> rfl) (by simp only [dn] <;> rfl) ?_
               focus (first | exact ⟨_, _, _, _, _, _, _, _, _, _, _, _, _, _, _, rfl⟩ | exact ⟨_, _, _, rfl⟩)))
          | (refine st_mk (by rfl) (by simp only [dn, reduceCtorEq, he1] <;> rfl) ?_ (by simp only [dn] <;> rfl) ?_
             focus exact ⟨_, _, _, _, _, _, _, _, _, _, _, _, _, _, _, _, _, _, _, rfl, by omega, by omega⟩)
          | (refine st_ret (by simp only [dn, reduceCtorEq, he1] <;> rfl) ?_
             rfl)
          | fail "no step")
  · rintro ps hl ⟨r, e, rfl, hx⟩ he
    simp only [List.getElem?_cons_zero, layR, layRObj, Option.some.injEq, EV.u.injEq, U.lay.injEq] at he
    subst he
    simp only [List.cons_append, List.nil_append]
    repeat' (first
      | (first
        | (with_reducible refine st_need ?_ ?_
           focus (simp only [dn, reduceCtorEq, hx] <;> first | omega | assumption))
        | (with_reducible refine st_and ?_ ?_)
        | (with_reducible exact st_ok)
        | (with_reducible refine st_br (fun hc => ?_) (fun hc => ?_) <;> (simp only [dn, reduceCtorEq, hx] at hc) <;> (try (exfalso; first | contradiction | omega)))
        | (refine st_call (by rfl) (by simp only [dn, reduceCtorEq, hx] <;> rfl) ?_ (by simp only [out_atP, out_atQ, out_store, fo_store] <;> rfl) (by simp only [dn] <;> rfl) ?_
           focus (first | exact ⟨_, _, _, _, _, _, _, _, _, _, _, _, _, _, _, rfl⟩ | exact ⟨_, _, _, rfl⟩)))
      | (refine st_mk (by rfl) (by simp only [dn, reduceCtorEq, hx] <;> rfl) ?_ (by simp only [dn] <;> rfl) ?_
         focus exact ⟨_, _, rfl, hx⟩)
      | (refine st_ret (by simp only [dn, reduceCtorEq, hx] <;> rfl) ?_
         rfl)
      | fail "no step")
theorem hLayErr : cLayErr.Holds objs Tryz.prog := runCtr_holds (X := { cxYi Tryz.prog with hints := hsLayErr }) objsOk mixed noCts (callable _ Tryz.func31 (by kernel_rfl) (by kernel_rfl)) (by rintro ins _ ⟨_, rfl, _⟩; rfl) (by rw [rLayErr]; exact vLayErr _ _)
set_option maxHeartbeats 2000000 in
theorem vLayBy (P : Program) (hs : List (Nat × Nat × List Nat)) : ∀ ins, ins.length = cLayBy.nin → cLayBy.pre ins → tLayBy.sat { cxYi P with hints := hs } (ctrR cLayBy) ins := by
  rintro ins _ ⟨L, rfl, hL⟩
  unfold tLayBy
  refine st_and (st_opn (T := layA) (by rfl) ?_) (st_and (st_opn (T := layR) (by rfl) ?_) nomore_lay)
  · rintro ps hl ⟨a0, a1, a2, a3, a4, a5, a6, a7, a8, a9, a10, a11, a12, r, i, k, j, h, d, rfl, hd0, hd1⟩ he
    simp only [List.getElem?_cons_zero, layA, layAObj, Option.some.injEq, EV.u.injEq, U.lay.injEq] at he
    subst he
    simp only [List.cons_append, List.nil_append]
    have hd : d = 0 ∨ d = 1 ∨ d = 2 ∨ d = 3 ∨ d = 4 := by omega
    have he0 : ∀ x : Int, 0 ≤ x → x ≤ 4 → IntKind.i64.wrap (x + 1) = x + 1 := fun x g0 g1 => wrap_small (by omega) (by omega)
    have he1 := he0 d hd0 hd1
    clear he0
    rcases hd with rfl | rfl | rfl | rfl | rfl
    all_goals
      repeat' (first
          | (first
            | (with_reducible refine st_need ?_ ?_
               focus (simp only [dn, reduceCtorEq, he1] <;> first | omega | assumption))
            | (with_reducible refine st_and ?_ ?_)
            | (with_reducible exact st_ok)
            | (with_reducible refine st_br (fun hc => ?_) (fun hc => ?_) <;> (simp only [dn, reduceCtorEq, he1] at hc) <;> (try (exfalso; first | contradiction | omega)))
            | (refine st_call (by rfl) (by simp only [dn, reduceCtorEq, he1] <;> rfl) ?_ (by simp only [out_atP, out_atQ, out_store, fo_store] <;> rfl) (by simp only [dn] <;> rfl) ?_
               focus (first | exact ⟨_, _, _, _, _, _, _, _, _, _, _, _, _, _, _, rfl⟩ | exact ⟨_, _, _, rfl⟩)))
          | (refine st_mk (by rfl) (by simp only [dn, reduceCtorEq, he1] <;> rfl) ?_ (by simp only [dn] <;> rfl) ?_
             focus exact ⟨_, _, _, _, _, _, _, _, _, _, _, _, _, _, _, _, _, _, _, rfl, by omega, by omega⟩)
          | (refine st_ret (by simp only [dn, reduceCtorEq, he1] <;> rfl) ?_
             rfl)
          | fail "no step")
  · rintro ps hl ⟨r, e, rfl, hx⟩ he
    simp only [List.getElem?_cons_zero, layR, layRObj, Option.some.injEq, EV.u.injEq, U.lay.injEq] at he
    subst he
    simp only [List.cons_append, List.nil_append]
    repeat' (first
      | (first
        | (with_reducible refine st_need ?_ ?_
           focus (simp only [dn, reduceCtorEq, hx] <;> first | omega | assumption))
        | (with_reducible refine st_and ?_ ?_)
        | (with_reducible exact st_ok)
        | (with_reducible refine st_br (fun hc => ?_) (fun hc => ?_) <;> (simp only [dn, reduceCtorEq, hx] at hc) <;> (try (exfalso; first | contradiction | omega)))
        | (refine st_call (by rfl) (by simp only [dn, reduceCtorEq, hx] <;> rfl) ?_ (by simp only [out_atP, out_atQ, out_store, fo_store] <;> rfl) (by simp only [dn] <;> rfl) ?_
           focus (first | exact ⟨_, _, _, _, _, _, _, _, _, _, _, _, _, _, _, rfl⟩ | exact ⟨_, _, _, rfl⟩)))
      | (refine st_mk (by rfl) (by simp only [dn, reduceCtorEq, hx] <;> rfl) ?_ (by simp only [dn] <;> rfl) ?_
         focus exact ⟨_, _, rfl, hx⟩)
      | (refine st_ret (by simp only [dn, reduceCtorEq, hx] <;> rfl) ?_
         rfl)
      | fail "no step")
theorem hLayBy : cLayBy.Holds objs Tryz.prog := runCtr_holds (X := { cxYi Tryz.prog with hints := hsLayBy }) objsOk mixed noCts (callable _ Tryz.func33 (by kernel_rfl) (by kernel_rfl)) (by rintro ins _ ⟨_, rfl, _⟩; rfl) (by rw [rLayBy]; exact vLayBy _ _)
set_option maxHeartbeats 2000000 in
theorem vQLayStep (P : Program) (hs : List (Nat × Nat × List Nat)) : ∀ ins, ins.length = cQLayStep.nin → cQLayStep.pre ins → tQLayStep.sat { cxYt P with hints := hs } (ctrR cQLayStep) ins := by
  rintro ins _ ⟨L, M, rfl, hL, hM⟩
  unfold tQLayStep
  refine st_and (st_opn (T := rlay0) (by rfl) ?_) (st_and (st_opn (T := rlay1) (by rfl) ?_) (st_and (st_opn (T := rlay2) (by rfl) ?_) (st_and (st_opn (T := rlay3) (by rfl) ?_) (st_and (st_opn (T := rlay9) (by rfl) ?_) nomore_rlay))))
  · rintro ps hl ⟨a0, a1, a2, a3, a4, a5, a6, a7, a8, a9, a10, a11, a12, r, b, k, i, j, h, rfl, hj0, hj1, hh0, hh1⟩ he
    simp only [List.getElem?_cons_zero, rlay0, rlay0Obj, Option.some.injEq, EV.u.injEq, U.rlay.injEq] at he
    subst he
    simp only [List.cons_append, List.nil_append]
    have ej : IntKind.u64.wrap j = j := wrapX hj0 (by omega)
    have eh : IntKind.u64.wrap h = h := wrapX (by omega) (by omega)
    repeat' (first
      | (first
        | (with_reducible refine st_need ?_ ?_
           focus (simp only [dn, reduceCtorEq, ej, eh] <;> first | omega | assumption))
        | (with_reducible refine st_and ?_ ?_)
        | (with_reducible exact st_ok)
        | (with_reducible refine st_br (fun hc => ?_) (fun hc => ?_) <;> (simp only [dn, reduceCtorEq, ej, eh] at hc) <;> (try (exfalso; first | contradiction | omega)))
        | (refine st_call (by rfl) (by simp only [dn, reduceCtorEq, ej, eh] <;> rfl) ?_ (by simp only [out_atP, out_atQ, out_store, fo_store] <;> rfl) (by simp only [dn] <;> rfl) ?_
           focus (first | exact ⟨_, _, _, _, _, _, _, _, _, _, _, _, _, _, _, rfl⟩ | exact ⟨_, _, _, rfl, hM⟩)))
      | (refine st_mk (by rfl) (by simp only [dn, reduceCtorEq, ej, eh] <;> rfl) ?_ (by simp only [dn] <;> rfl) ?_
         focus first | exact ⟨_, _, _, _, _, _, _, _, _, _, _, _, _, _, _, _, _, _, _, rfl, hj0, hj1, hh0, hh1⟩ | exact ⟨_, _, _, _, _, _, _, _, _, _, _, _, _, _, _, _, _, _, _, _, rfl, .inl ⟨rfl, hj0, hj1, hh0, hh1⟩⟩)
      | (refine st_ret (by simp only [dn, reduceCtorEq, ej, eh] <;> rfl) ?_
         rfl)
      | fail "no step")
  · rintro ps hl ⟨a0, a1, a2, a3, a4, a5, a6, a7, a8, a9, a10, a11, a12, r, b, k, i, j, h, rfl, hj0, hj1, hh0, hh1⟩ he
    simp only [List.getElem?_cons_zero, rlay1, rlay1Obj, Option.some.injEq, EV.u.injEq, U.rlay.injEq] at he
    subst he
    simp only [List.cons_append, List.nil_append]
    have ej : IntKind.u64.wrap j = j := wrapX hj0 (by omega)
    have eh : IntKind.u64.wrap h = h := wrapX (by omega) (by omega)
    repeat' (first
      | (first
        | (with_reducible refine st_need ?_ ?_
           focus (simp only [dn, reduceCtorEq, ej, eh] <;> first | omega | assumption))
        | (with_reducible refine st_and ?_ ?_)
        | (with_reducible exact st_ok)
        | (with_reducible refine st_br (fun hc => ?_) (fun hc => ?_) <;> (simp only [dn, reduceCtorEq, ej, eh] at hc) <;> (try (exfalso; first | contradiction | omega)))
        | (refine st_call (by rfl) (by simp only [dn, reduceCtorEq, ej, eh] <;> rfl) ?_ (by simp only [out_atP, out_atQ, out_store, fo_store] <;> rfl) (by simp only [dn] <;> rfl) ?_
           focus (first | exact ⟨_, _, _, _, _, _, _, _, _, _, _, _, _, _, _, rfl⟩ | exact ⟨_, _, _, rfl, hM⟩)))
      | (refine st_mk (by rfl) (by simp only [dn, reduceCtorEq, ej, eh] <;> rfl) ?_ (by simp only [dn] <;> rfl) ?_
         focus first | exact ⟨_, _, _, _, _, _, _, _, _, _, _, _, _, _, _, _, _, _, _, rfl, hj0, hj1, hh0, hh1⟩ | exact ⟨_, _, _, _, _, _, _, _, _, _, _, _, _, _, _, _, _, _, _, _, rfl, .inl ⟨rfl, hj0, hj1, hh0, hh1⟩⟩)
      | (refine st_ret (by simp only [dn, reduceCtorEq, ej, eh] <;> rfl) ?_
         rfl)
      | fail "no step")
  · rintro ps hl ⟨a0, a1, a2, a3, a4, a5, a6, a7, a8, a9, a10, a11, a12, r, b, k, i, j, h, rfl, hj0, hj1, hh0, hh1⟩ he
    simp only [List.getElem?_cons_zero, rlay2, rlay2Obj, Option.some.injEq, EV.u.injEq, U.rlay.injEq] at he
    subst he
    simp only [List.cons_append, List.nil_append]
    have ej : IntKind.u64.wrap j = j := wrapX hj0 (by omega)
    have eh : IntKind.u64.wrap h = h := wrapX (by omega) (by omega)
    repeat' (first
      | (first
        | (with_reducible refine st_need ?_ ?_
           focus (simp only [dn, reduceCtorEq, ej, eh] <;> first | omega | assumption))
        | (with_reducible refine st_and ?_ ?_)
        | (with_reducible exact st_ok)
        | (with_reducible refine st_br (fun hc => ?_) (fun hc => ?_) <;> (simp only [dn, reduceCtorEq, ej, eh] at hc) <;> (try (exfalso; first | contradiction | omega)))
        | (refine st_call (by rfl) (by simp only [dn, reduceCtorEq, ej, eh] <;> rfl) ?_ (by simp only [out_atP, out_atQ, out_store, fo_store] <;> rfl) (by simp only [dn] <;> rfl) ?_
           focus (first | exact ⟨_, _, _, _, _, _, _, _, _, _, _, _, _, _, _, rfl⟩ | exact ⟨_, _, _, rfl, hM⟩)))
      | (refine st_mk (by rfl) (by simp only [dn, reduceCtorEq, ej, eh] <;> rfl) ?_ (by simp only [dn] <;> rfl) ?_
         focus first | exact ⟨_, _, _, _, _, _, _, _, _, _, _, _, _, _, _, _, _, _, _, rfl, hj0, hj1, hh0, hh1⟩ | exact ⟨_, _, _, _, _, _, _, _, _, _, _, _, _, _, _, _, _, _, _, _, rfl, .inl ⟨rfl, hj0, hj1, hh0, hh1⟩⟩)
      | (refine st_ret (by simp only [dn, reduceCtorEq, ej, eh] <;> rfl) ?_
         rfl)
      | fail "no step")
  · rintro ps hl ⟨a0, a1, a2, a3, a4, a5, a6, a7, a8, a9, a10, a11, a12, r, b, k, i, j, h, rfl, hj0, hj1, hh0, hh1⟩ he
    simp only [List.getElem?_cons_zero, rlay3, rlay3Obj, Option.some.injEq, EV.u.injEq, U.rlay.injEq] at he
    subst he
    simp only [List.cons_append, List.nil_append]
    have ej : IntKind.u64.wrap j = j := wrapX hj0 (by omega)
    have eh : IntKind.u64.wrap h = h := wrapX (by omega) (by omega)
    repeat' (first
      | (first
        | (with_reducible refine st_need ?_ ?_
           focus (simp only [dn, reduceCtorEq, ej, eh] <;> first | omega | assumption))
        | (with_reducible refine st_and ?_ ?_)
        | (with_reducible exact st_ok)
        | (with_reducible refine st_br (fun hc => ?_) (fun hc => ?_) <;> (simp only [dn, reduceCtorEq, ej, eh] at hc) <;> (try (exfalso; first | contradiction | omega)))
        | (refine st_call (by rfl) (by simp only [dn, reduceCtorEq, ej, eh] <;> rfl) ?_ (by simp only [out_atP, out_atQ, out_store, fo_store] <;> rfl) (by simp only [dn] <;> rfl) ?_
           focus (first | exact ⟨_, _, _, _, _, _, _, _, _, _, _, _, _, _, _, rfl⟩ | exact ⟨_, _, _, rfl, hM⟩)))
      | (refine st_mk (by rfl) (by simp only [dn, reduceCtorEq, ej, eh] <;> rfl) ?_ (by simp only [dn] <;> rfl) ?_
         focus first | exact ⟨_, _, _, _, _, _, _, _, _, _, _, _, _, _, _, _, _, _, _, rfl, hj0, hj1, hh0, hh1⟩ | exact ⟨_, _, _, _, _, _, _, _, _, _, _, _, _, _, _, _, _, _, _, _, rfl, .inl ⟨rfl, hj0, hj1, hh0, hh1⟩⟩)
      | (refine st_ret (by simp only [dn, reduceCtorEq, ej, eh] <;> rfl) ?_
         rfl)
      | fail "no step")
  · rintro ps hl ⟨a0, a1, a2, a3, a4, a5, a6, a7, a8, a9, a10, a11, a12, r, b, k, i, j, h, e, rfl, hh⟩ he
    simp only [List.getElem?_cons_zero, rlay9, rlay9Obj, Option.some.injEq, EV.u.injEq, U.rlay.injEq] at he
    by_cases hx : e = 0
    · rw [if_pos hx] at he
      subst he hx
      obtain hb : b = r := lay_ok9 hL
      subst hb
      have hg : 0 ≤ j ∧ j ≤ 65534 ∧ 1 ≤ h ∧ h ≤ 4 := by omega
      obtain ⟨g1, g2, g3, g4⟩ := hg
      simp only [List.cons_append, List.nil_append]
      repeat' (first
        | (first
          | (with_reducible refine st_need ?_ ?_
             focus (simp only [dn, reduceCtorEq, g1] <;> first | omega | assumption))
          | (with_reducible refine st_and ?_ ?_)
          | (with_reducible exact st_ok)
          | (with_reducible refine st_br (fun hc => ?_) (fun hc => ?_) <;> (simp only [dn, reduceCtorEq, g1] at hc) <;> (try (exfalso; first | contradiction | omega)))
          | (refine st_call (by rfl) (by simp only [dn, reduceCtorEq, g1] <;> rfl) ?_ (by simp only [out_atP, out_atQ, out_store, fo_store] <;> rfl) (by simp only [dn] <;> rfl) ?_
             focus (first | exact ⟨_, _, _, _, _, _, _, _, _, _, _, _, _, _, _, rfl⟩ | exact ⟨_, _, _, rfl, hM⟩)))
        | (refine st_mk (by rfl) (by simp only [dn, reduceCtorEq, g1] <;> rfl) ?_ (by simp only [dn] <;> rfl) ?_
           focus first | exact ⟨_, _, _, _, _, _, _, _, _, _, _, _, _, _, _, _, _, _, _, _, rfl, .inl ⟨rfl, g1, g2, g3, g4⟩⟩ | exact ⟨_, _, _, _, _, _, _, _, _, _, _, _, _, _, _, _, _, _, _, _, rfl, .inr ⟨hx, rfl, rfl⟩⟩)
        | (refine st_ret (by simp only [dn, reduceCtorEq, g1] <;> rfl) ?_
           rfl)
        | fail "no step")
    · rw [if_neg hx] at he
      subst he
      have hg : r = 0 ∧ b = 0 := by omega
      obtain ⟨rfl, rfl⟩ := hg
      simp only [List.cons_append, List.nil_append]
      repeat' (first
        | (first
          | (with_reducible refine st_need ?_ ?_
             focus (simp only [dn, reduceCtorEq, hx] <;> first | omega | assumption))
          | (with_reducible refine st_and ?_ ?_)
          | (with_reducible exact st_ok)
          | (with_reducible refine st_br (fun hc => ?_) (fun hc => ?_) <;> (simp only [dn, reduceCtorEq, hx] at hc) <;> (try (exfalso; first | contradiction | omega)))
          | (refine st_call (by rfl) (by simp only [dn, reduceCtorEq, hx] <;> rfl) ?_ (by simp only [out_atP, out_atQ, out_store, fo_store] <;> rfl) (by simp only [dn] <;> rfl) ?_
             focus (first | exact ⟨_, _, _, _, _, _, _, _, _, _, _, _, _, _, _, rfl⟩ | exact ⟨_, _, _, rfl, hM⟩)))
        | (refine st_mk (by rfl) (by simp only [dn, reduceCtorEq, hx] <;> rfl) ?_ (by simp only [dn] <;> rfl) ?_
           focus first | exact ⟨_, _, _, _, _, _, _, _, _, _, _, _, _, _, _, _, _, _, _, _, rfl, .inl ⟨rfl, g1, g2, g3, g4⟩⟩ | exact ⟨_, _, _, _, _, _, _, _, _, _, _, _, _, _, _, _, _, _, _, _, rfl, .inr ⟨hx, rfl, rfl⟩⟩)
        | (refine st_ret (by simp only [dn, reduceCtorEq, hx] <;> rfl) ?_
           (try simp only [rlay9, rlay9Obj, if_neg hx]); rfl)
        | fail "no step")
theorem hQLayStep : cQLayStep.Holds objs Tryz.prog := runCtr_holds (X := { cxYt Tryz.prog with hints := hsQLayStep }) objsOk mixed (by
  intro ci c h
  match ci, h with
  | 0, h => cases h; exact hQStore
  | 1, h => cases h; exact hRAt
  | n + 2, h => cases h) (callable _ Tryz.func30 (by kernel_rfl) (by kernel_rfl)) (by rintro ins _ ⟨_, M, rfl, _⟩; rfl) (by rw [rQLayStep]; exact vQLayStep _ _)
set_option maxHeartbeats 2000000 in
theorem vQLayErr (P : Program) (hs : List (Nat × Nat × List Nat)) : ∀ ins, ins.length = cQLayErr.nin → cQLayErr.pre ins → tQLayErr.sat { cxYi P with hints := hs } (ctrR cQLayErr) ins := by
  rintro ins _ ⟨L, rfl, hL⟩
  unfold tQLayErr
  refine st_and (st_opn (T := rlay0) (by rfl) ?_) (st_and (st_opn (T := rlay1) (by rfl) ?_) (st_and (st_opn (T := rlay2) (by rfl) ?_) (st_and (st_opn (T := rlay3) (by rfl) ?_) (st_and (st_opn (T := rlay9) (by rfl) ?_) nomore_rlay))))
  · rintro ps hl ⟨a0, a1, a2, a3, a4, a5, a6, a7, a8, a9, a10, a11, a12, r, b, k, i, j, h, rfl, hj0, hj1, hh0, hh1⟩ he
    simp only [List.getElem?_cons_zero, rlay0, rlay0Obj, Option.some.injEq, EV.u.injEq, U.rlay.injEq] at he
    subst he
    simp only [List.cons_append, List.nil_append]
    have ej : IntKind.u64.wrap j = j := wrapX hj0 (by omega)
    have eh : IntKind.u64.wrap h = h := wrapX (by omega) (by omega)
    repeat' (first
      | (first
        | (with_reducible refine st_need ?_ ?_
           focus (simp only [dn, reduceCtorEq, ej, eh] <;> first | omega | assumption))
        | (with_reducible refine st_and ?_ ?_)
        | (with_reducible exact st_ok)
        | (with_reducible refine st_br (fun hc => ?_) (fun hc => ?_) <;> (simp only [dn, reduceCtorEq, ej, eh] at hc) <;> (try (exfalso; first | contradiction | omega)))
        | (refine st_call (by rfl) (by simp only [dn, reduceCtorEq, ej, eh] <;> rfl) ?_ (by simp only [out_atP, out_atQ, out_store, fo_store] <;> rfl) (by simp only [dn] <;> rfl) ?_
           focus (first | exact ⟨_, _, _, _, _, _, _, _, _, _, _, _, _, _, _, rfl⟩ | exact ⟨_, _, _, rfl, hM⟩)))
      | (refine st_mk (by rfl) (by simp only [dn, reduceCtorEq, ej, eh] <;> rfl) ?_ (by simp only [dn] <;> rfl) ?_
         focus first | exact ⟨_, _, _, _, _, _, _, _, _, _, _, _, _, _, _, _, _, _, _, rfl, hj0, hj1, hh0, hh1⟩ | exact ⟨_, _, _, _, _, _, _, _, _, _, _, _, _, _, _, _, _, _, _, _, rfl, .inl ⟨rfl, hj0, hj1, hh0, hh1⟩⟩)
      | (refine st_ret (by simp only [dn, reduceCtorEq, ej, eh] <;> rfl) ?_
         rfl)
      | fail "no step")
  · rintro ps hl ⟨a0, a1, a2, a3, a4, a5, a6, a7, a8, a9, a10, a11, a12, r, b, k, i, j, h, rfl, hj0, hj1, hh0, hh1⟩ he
    simp only [List.getElem?_cons_zero, rlay1, rlay1Obj, Option.some.injEq, EV.u.injEq, U.rlay.injEq] at he
    subst he
    simp only [List.cons_append, List.nil_append]
    have ej : IntKind.u64.wrap j = j := wrapX hj0 (by omega)
    have eh : IntKind.u64.wrap h = h := wrapX (by omega) (by omega)
    repeat' (first
      | (first
        | (with_reducible refine st_need ?_ ?_
           focus (simp only [dn, reduceCtorEq, ej, eh] <;> first | omega | assumption))
        | (with_reducible refine st_and ?_ ?_)
        | (with_reducible exact st_ok)
        | (with_reducible refine st_br (fun hc => ?_) (fun hc => ?_) <;> (simp only [dn, reduceCtorEq, ej, eh] at hc) <;> (try (exfalso; first | contradiction | omega)))
        | (refine st_call (by rfl) (by simp only [dn, reduceCtorEq, ej, eh] <;> rfl) ?_ (by simp only [out_atP, out_atQ, out_store, fo_store] <;> rfl) (by simp only [dn] <;> rfl) ?_
           focus (first | exact ⟨_, _, _, _, _, _, _, _, _, _, _, _, _, _, _, rfl⟩ | exact ⟨_, _, _, rfl, hM⟩)))
      | (refine st_mk (by rfl) (by simp only [dn, reduceCtorEq, ej, eh] <;> rfl) ?_ (by simp only [dn] <;> rfl) ?_
         focus first | exact ⟨_, _, _, _, _, _, _, _, _, _, _, _, _, _, _, _, _, _, _, rfl, hj0, hj1, hh0, hh1⟩ | exact ⟨_, _, _, _, _, _, _, _, _, _, _, _, _, _, _, _, _, _, _, _, rfl, .inl ⟨rfl, hj0, hj1, hh0, hh1⟩⟩)
      | (refine st_ret (by simp only [dn, reduceCtorEq, ej, eh] <;> rfl) ?_
         rfl)
      | fail "no step")
  · rintro ps hl ⟨a0, a1, a2, a3, a4, a5, a6, a7, a8, a9, a10, a11, a12, r, b, k, i, j, h, rfl, hj0, hj1, hh0, hh1⟩ he
    simp only [List.getElem?_cons_zero, rlay2, rlay2Obj, Option.some.injEq, EV.u.injEq, U.rlay.injEq] at he
    subst he
    simp only [List.cons_append, List.nil_append]
    have ej : IntKind.u64.wrap j = j := wrapX hj0 (by omega)
    have eh : IntKind.u64.wrap h = h := wrapX (by omega) (by omega)
    repeat' (first
      | (first
        | (with_reducible refine st_need ?_ ?_
           focus (simp only [dn, reduceCtorEq, ej, eh] <;> first | omega | assumption))
        | (with_reducible refine st_and ?_ ?_)
        | (with_reducible exact st_ok)
        | (with_reducible refine st_br (fun hc => ?_) (fun hc => ?_) <;> (simp only [dn, reduceCtorEq, ej, eh] at hc) <;> (try (exfalso; first | contradiction | omega)))
        | (refine st_call (by rfl) (by simp only [dn, reduceCtorEq, ej, eh] <;> rfl) ?_ (by simp only [out_atP, out_atQ, out_store, fo_store] <;> rfl) (by simp only [dn] <;> rfl) ?_
           focus (first | exact ⟨_, _, _, _, _, _, _, _, _, _, _, _, _, _, _, rfl⟩ | exact ⟨_, _, _, rfl, hM⟩)))
      | (refine st_mk (by rfl) (by simp only [dn, reduceCtorEq, ej, eh] <;> rfl) ?_ (by simp only [dn] <;> rfl) ?_
         focus first | exact ⟨_, _, _, _, _, _, _, _, _, _, _, _, _, _, _, _, _, _, _, rfl, hj0, hj1, hh0, hh1⟩ | exact ⟨_, _, _, _, _, _, _, _, _, _, _, _, _, _, _, _, _, _, _, _, rfl, .inl ⟨rfl, hj0, hj1, hh0, hh1⟩⟩)
      | (refine st_ret (by simp only [dn, reduceCtorEq, ej, eh] <;> rfl) ?_
         rfl)
      | fail "no step")
  · rintro ps hl ⟨a0, a1, a2, a3, a4, a5, a6, a7, a8, a9, a10, a11, a12, r, b, k, i, j, h, rfl, hj0, hj1, hh0, hh1⟩ he
    simp only [List.getElem?_cons_zero, rlay3, rlay3Obj, Option.some.injEq, EV.u.injEq, U.rlay.injEq] at he
    subst he
    simp only [List.cons_append, List.nil_append]
    have ej : IntKind.u64.wrap j = j := wrapX hj0 (by omega)
    have eh : IntKind.u64.wrap h = h := wrapX (by omega) (by omega)
    repeat' (first
      | (first
        | (with_reducible refine st_need ?_ ?_
           focus (simp only [dn, reduceCtorEq, ej, eh] <;> first | omega | assumption))
        | (with_reducible refine st_and ?_ ?_)
        | (with_reducible exact st_ok)
        | (with_reducible refine st_br (fun hc => ?_) (fun hc => ?_) <;> (simp only [dn, reduceCtorEq, ej, eh] at hc) <;> (try (exfalso; first | contradiction | omega)))
        | (refine st_call (by rfl) (by simp only [dn, reduceCtorEq, ej, eh] <;> rfl) ?_ (by simp only [out_atP, out_atQ, out_store, fo_store] <;> rfl) (by simp only [dn] <;> rfl) ?_
           focus (first | exact ⟨_, _, _, _, _, _, _, _, _, _, _, _, _, _, _, rfl⟩ | exact ⟨_, _, _, rfl, hM⟩)))
      | (refine st_mk (by rfl) (by simp only [dn, reduceCtorEq, ej, eh] <;> rfl) ?_ (by simp only [dn] <;> rfl) ?_
         focus first | exact ⟨_, _, _, _, _, _, _, _, _, _, _, _, _, _, _, _, _, _, _, rfl, hj0, hj1, hh0, hh1⟩ | exact ⟨_, _, _, _, _, _, _, _, _, _, _, _, _, _, _, _, _, _, _, _, rfl, .inl ⟨rfl, hj0, hj1, hh0, hh1⟩⟩)
      | (refine st_ret (by simp only [dn, reduceCtorEq, ej, eh] <;> rfl) ?_
         rfl)
      | fail "no step")
  · rintro ps hl ⟨a0, a1, a2, a3, a4, a5, a6, a7, a8, a9, a10, a11, a12, r, b, k, i, j, h, e, rfl, hh⟩ he
    simp only [List.getElem?_cons_zero, rlay9, rlay9Obj, Option.some.injEq, EV.u.injEq, U.rlay.injEq] at he
    by_cases hx : e = 0
    · rw [if_pos hx] at he
      subst he hx
      obtain hb : b = r := lay_ok9 hL
      subst hb
      have hg : 0 ≤ j ∧ j ≤ 65534 ∧ 1 ≤ h ∧ h ≤ 4 := by omega
      obtain ⟨g1, g2, g3, g4⟩ := hg
      simp only [List.cons_append, List.nil_append]
      repeat' (first
        | (first
          | (with_reducible refine st_need ?_ ?_
             focus (simp only [dn, reduceCtorEq, g1] <;> first | omega | assumption))
          | (with_reducible refine st_and ?_ ?_)
          | (with_reducible exact st_ok)
          | (with_reducible refine st_br (fun hc => ?_) (fun hc => ?_) <;> (simp only [dn, reduceCtorEq, g1] at hc) <;> (try (exfalso; first | contradiction | omega)))
          | (refine st_call (by rfl) (by simp only [dn, reduceCtorEq, g1] <;> rfl) ?_ (by simp only [out_atP, out_atQ, out_store, fo_store] <;> rfl) (by simp only [dn] <;> rfl) ?_
             focus (first | exact ⟨_, _, _, _, _, _, _, _, _, _, _, _, _, _, _, rfl⟩ | exact ⟨_, _, _, rfl, hM⟩)))
        | (refine st_mk (by rfl) (by simp only [dn, reduceCtorEq, g1] <;> rfl) ?_ (by simp only [dn] <;> rfl) ?_
           focus first | exact ⟨_, _, _, _, _, _, _, _, _, _, _, _, _, _, _, _, _, _, _, _, rfl, .inl ⟨rfl, g1, g2, g3, g4⟩⟩ | exact ⟨_, _, _, _, _, _, _, _, _, _, _, _, _, _, _, _, _, _, _, _, rfl, .inr ⟨hx, rfl, rfl⟩⟩)
        | (refine st_ret (by simp only [dn, reduceCtorEq, g1] <;> rfl) ?_
           rfl)
        | fail "no step")
    · rw [if_neg hx] at he
      subst he
      have hg : r = 0 ∧ b = 0 := by omega
      obtain ⟨rfl, rfl⟩ := hg
      simp only [List.cons_append, List.nil_append]
      repeat' (first
        | (first
          | (with_reducible refine st_need ?_ ?_
             focus (simp only [dn, reduceCtorEq, hx] <;> first | omega | assumption))
          | (with_reducible refine st_and ?_ ?_)
          | (with_reducible exact st_ok)
          | (with_reducible refine st_br (fun hc => ?_) (fun hc => ?_) <;> (simp only [dn, reduceCtorEq, hx] at hc) <;> (try (exfalso; first | contradiction | omega)))
          | (refine st_call (by rfl) (by simp only [dn, reduceCtorEq, hx] <;> rfl) ?_ (by simp only [out_atP, out_atQ, out_store, fo_store] <;> rfl) (by simp only [dn] <;> rfl) ?_
             focus (first | exact ⟨_, _, _, _, _, _, _, _, _, _, _, _, _, _, _, rfl⟩ | exact ⟨_, _, _, rfl, hM⟩)))
        | (refine st_mk (by rfl) (by simp only [dn, reduceCtorEq, hx] <;> rfl) ?_ (by simp only [dn] <;> rfl) ?_
           focus first | exact ⟨_, _, _, _, _, _, _, _, _, _, _, _, _, _, _, _, _, _, _, _, rfl, .inl ⟨rfl, g1, g2, g3, g4⟩⟩ | exact ⟨_, _, _, _, _, _, _, _, _, _, _, _, _, _, _, _, _, _, _, _, rfl, .inr ⟨hx, rfl, rfl⟩⟩)
        | (refine st_ret (by simp only [dn, reduceCtorEq, hx] <;> rfl) ?_
           (try simp only [rlay9, rlay9Obj, if_neg hx]); rfl)
        | fail "no step")
theorem hQLayErr : cQLayErr.Holds objs Tryz.prog := runCtr_holds (X := { cxYi Tryz.prog with hints := hsQLayErr }) objsOk mixed noCts (callable _ Tryz.func32 (by kernel_rfl) (by kernel_rfl)) (by rintro ins _ ⟨_, rfl, _⟩; rfl) (by rw [rQLayErr]; exact vQLayErr _ _)
set_option maxHeartbeats 2000000 in
theorem vQLayBy (P : Program) (hs : List (Nat × Nat × List Nat)) : ∀ ins, ins.length = cQLayBy.nin → cQLayBy.pre ins → tQLayBy.sat { cxYi P with hints := hs } (ctrR cQLayBy) ins := by
  rintro ins _ ⟨L, rfl, hL⟩
  unfold tQLayBy
  refine st_and (st_opn (T := rlay0) (by rfl) ?_) (st_and (st_opn (T := rlay1) (by rfl) ?_) (st_and (st_opn (T := rlay2) (by rfl) ?_) (st_and (st_opn (T := rlay3) (by rfl) ?_) (st_and (st_opn (T := rlay9) (by rfl) ?_) nomore_rlay))))
  · rintro ps hl ⟨a0, a1, a2, a3, a4, a5, a6, a7, a8, a9, a10, a11, a12, r, b, k, i, j, h, rfl, hj0, hj1, hh0, hh1⟩ he
    simp only [List.getElem?_cons_zero, rlay0, rlay0Obj, Option.some.injEq, EV.u.injEq, U.rlay.injEq] at he
    subst he
    simp only [List.cons_append, List.nil_append]
    have ej : IntKind.u64.wrap j = j := wrapX hj0 (by omega)
    have eh : IntKind.u64.wrap h = h := wrapX (by omega) (by omega)
    repeat' (first
      | (first
        | (with_reducible refine st_need ?_ ?_
           focus (simp only [dn, reduceCtorEq, ej, eh] <;> first | omega | assumption))
        | (with_reducible refine st_and ?_ ?_)
        | (with_reducible exact st_ok)
        | (with_reducible refine st_br (fun hc => ?_) (fun hc => ?_) <;> (simp only [dn, reduceCtorEq, ej, eh] at hc) <;> (try (exfalso; first | contradiction | omega)))
        | (refine st_call (by rfl) (by simp only [dn, reduceCtorEq, ej, eh] <;> rfl) ?_ (by simp only [out_atP, out_atQ, out_store, fo_store] <;> rfl) (by simp only [dn] <;> rfl) ?_
           focus (first | exact ⟨_, _, _, _, _, _, _, _, _, _, _, _, _, _, _, rfl⟩ | exact ⟨_, _, _, rfl, hM⟩)))
      | (refine st_mk (by rfl) (by simp only [dn, reduceCtorEq, ej, eh] <;> rfl) ?_ (by simp only [dn] <;> rfl) ?_
         focus first | exact ⟨_, _, _, _, _, _, _, _, _, _, _, _, _, _, _, _, _, _, _, rfl, hj0, hj1, hh0, hh1⟩ | exact ⟨_, _, _, _, _, _, _, _, _, _, _, _, _, _, _, _, _, _, _, _, rfl, .inl ⟨rfl, hj0, hj1, hh0, hh1⟩⟩)
      | (refine st_ret (by simp only [dn, reduceCtorEq, ej, eh] <;> rfl) ?_
         rfl)
      | fail "no step")
  · rintro ps hl ⟨a0, a1, a2, a3, a4, a5, a6, a7, a8, a9, a10, a11, a12, r, b, k, i, j, h, rfl, hj0, hj1, hh0, hh1⟩ he
    simp only [List.getElem?_cons_zero, rlay1, rlay1Obj, Option.some.injEq, EV.u.injEq, U.rlay.injEq] at he
    subst he
    simp only [List.cons_append, List.nil_append]
    have ej : IntKind.u64.wrap j = j := wrapX hj0 (by omega)
    have eh : IntKind.u64.wrap h = h := wrapX (by omega) (by omega)
    repeat' (first
      | (first
        | (with_reducible refine st_need ?_ ?_
           focus (simp only [dn, reduceCtorEq, ej, eh] <;> first | omega | assumption))
        | (with_reducible refine st_and ?_ ?_)
        | (with_reducible exact st_ok)
        | (with_reducible refine st_br (fun hc => ?_) (fun hc => ?_) <;> (simp only [dn, reduceCtorEq, ej, eh] at hc) <;> (try (exfalso; first | contradiction | omega)))
        | (refine st_call (by rfl) (by simp only [dn, reduceCtorEq, ej, eh] <;> rfl) ?_ (by simp only [out_atP, out_atQ, out_store, fo_store] <;> rfl) (by simp only [dn] <;> rfl) ?_
           focus (first | exact ⟨_, _, _, _, _, _, _, _, _, _, _, _, _, _, _, rfl⟩ | exact ⟨_, _, _, rfl, hM⟩)))
      | (refine st_mk (by rfl) (by simp only [dn, reduceCtorEq, ej, eh] <;> rfl) ?_ (by simp only [dn] <;> rfl) ?_
         focus first | exact ⟨_, _, _, _, _, _, _, _, _, _, _, _, _, _, _, _, _, _, _, rfl, hj0, hj1, hh0, hh1⟩ | exact ⟨_, _, _, _, _, _, _, _, _, _, _, _, _, _, _, _, _, _, _, _, rfl, .inl ⟨rfl, hj0, hj1, hh0, hh1⟩⟩)
      | (refine st_ret (by simp only [dn, reduceCtorEq, ej, eh] <;> rfl) ?_
         rfl)
      | fail "no step")
  · rintro ps hl ⟨a0, a1, a2, a3, a4, a5, a6, a7, a8, a9, a10, a11, a12, r, b, k, i, j, h, rfl, hj0, hj1, hh0, hh1⟩ he
    simp only [List.getElem?_cons_zero, rlay2, rlay2Obj, Option.some.injEq, EV.u.injEq, U.rlay.injEq] at he
    subst he
    simp only [List.cons_append, List.nil_append]
    have ej : IntKind.u64.wrap j = j := wrapX hj0 (by omega)
    have eh : IntKind.u64.wrap h = h := wrapX (by omega) (by omega)
    repeat' (first
      | (first
        | (with_reducible refine st_need ?_ ?_
           focus (simp only [dn, reduceCtorEq, ej, eh] <;> first | omega | assumption))
        | (with_reducible refine st_and ?_ ?_)
        | (with_reducible exact st_ok)
        | (with_reducible refine st_br (fun hc => ?_) (fun hc => ?_) <;> (simp only [dn, reduceCtorEq, ej, eh] at hc) <;> (try (exfalso; first | contradiction | omega)))
        | (refine st_call (by rfl) (by simp only [dn, reduceCtorEq, ej, eh] <;> rfl) ?_ (by simp only [out_atP, out_atQ, out_store, fo_store] <;> rfl) (by simp only [dn] <;> rfl) ?_
           focus (first | exact ⟨_, _, _, _, _, _, _, _, _, _, _, _, _, _, _, rfl⟩ | exact ⟨_, _, _, rfl, hM⟩)))
      | (refine st_mk (by rfl) (by simp only [dn, reduceCtorEq, ej, eh] <;> rfl) ?_ (by simp only [dn] <;> rfl) ?_
         focus first | exact ⟨_, _, _, _, _, _, _, _, _, _, _, _, _, _, _, _, _, _, _, rfl, hj0, hj1, hh0, hh1⟩ | exact ⟨_, _, _, _, _, _, _, _, _, _, _, _, _, _, _, _, _, _, _, _, rfl, .inl ⟨rfl, hj0, hj1, hh0, hh1⟩⟩)
      | (refine st_ret (by simp only [dn, reduceCtorEq, ej, eh] <;> rfl) ?_
         rfl)
      | fail "no step")
  · rintro ps hl ⟨a0, a1, a2, a3, a4, a5, a6, a7, a8, a9, a10, a11, a12, r, b, k, i, j, h, rfl, hj0, hj1, hh0, hh1⟩ he
    simp only [List.getElem?_cons_zero, rlay3, rlay3Obj, Option.some.injEq, EV.u.injEq, U.rlay.injEq] at he
    subst he
    simp only [List.cons_append, List.nil_append]
    have ej : IntKind.u64.wrap j = j := wrapX hj0 (by omega)
    have eh : IntKind.u64.wrap h = h := wrapX (by omega) (by omega)
    repeat' (first
      | (first
        | (with_reducible refine st_need ?_ ?_
           focus (simp only [dn, reduceCtorEq, ej, eh] <;> first | omega | assumption))
        | (with_reducible refine st_and ?_ ?_)
        | (with_reducible exact st_ok)
        | (with_reducible refine st_br (fun hc => ?_) (fun hc => ?_) <;> (simp only [dn, reduceCtorEq, ej, eh] at hc) <;> (try (exfalso; first | contradiction | omega)))
        | (refine st_call (by rfl) (by simp only [dn, reduceCtorEq, ej, eh] <;> rfl) ?_ (by simp only [out_atP, out_atQ, out_store, fo_store] <;> rfl) (by simp only [dn] <;> rfl) ?_
           focus (first | exact ⟨_, _, _, _, _, _, _, _, _, _, _, _, _, _, _, rfl⟩ | exact ⟨_, _, _, rfl, hM⟩)))
      | (refine st_mk (by rfl) (by simp only [dn, reduceCtorEq, ej, eh] <;> rfl) ?_ (by simp only [dn] <;> rfl) ?_
         focus first | exact ⟨_, _, _, _, _, _, _, _, _, _, _, _, _, _, _, _, _, _, _, rfl, hj0, hj1, hh0, hh1⟩ | exact ⟨_, _, _, _, _, _, _, _, _, _, _, _, _, _, _, _, _, _, _, _, rfl, .inl ⟨rfl, hj0, hj1, hh0, hh1⟩⟩)
      | (refine st_ret (by simp only [dn, reduceCtorEq, ej, eh] <;> rfl) ?_
         rfl)
      | fail "no step")
  · rintro ps hl ⟨a0, a1, a2, a3, a4, a5, a6, a7, a8, a9, a10, a11, a12, r, b, k, i, j, h, e, rfl, hh⟩ he
    simp only [List.getElem?_cons_zero, rlay9, rlay9Obj, Option.some.injEq, EV.u.injEq, U.rlay.injEq] at he
    by_cases hx : e = 0
    · rw [if_pos hx] at he
      subst he hx
      obtain hb : b = r := lay_ok9 hL
      subst hb
      have hg : 0 ≤ j ∧ j ≤ 65534 ∧ 1 ≤ h ∧ h ≤ 4 := by omega
      obtain ⟨g1, g2, g3, g4⟩ := hg
      simp only [List.cons_append, List.nil_append]
      repeat' (first
        | (first
          | (with_reducible refine st_need ?_ ?_
             focus (simp only [dn, reduceCtorEq, g1] <;> first | omega | assumption))
          | (with_reducible refine st_and ?_ ?_)
          | (with_reducible exact st_ok)
          | (with_reducible refine st_br (fun hc => ?_) (fun hc => ?_) <;> (simp only [dn, reduceCtorEq, g1] at hc) <;> (try (exfalso; first | contradiction | omega)))
          | (refine st_call (by rfl) (by simp only [dn, reduceCtorEq, g1] <;> rfl) ?_ (by simp only [out_atP, out_atQ, out_store, fo_store] <;> rfl) (by simp only [dn] <;> rfl) ?_
             focus (first | exact ⟨_, _, _, _, _, _, _, _, _, _, _, _, _, _, _, rfl⟩ | exact ⟨_, _, _, rfl, hM⟩)))
        | (refine st_mk (by rfl) (by simp only [dn, reduceCtorEq, g1] <;> rfl) ?_ (by simp only [dn] <;> rfl) ?_
           focus first | exact ⟨_, _, _, _, _, _, _, _, _, _, _, _, _, _, _, _, _, _, _, _, rfl, .inl ⟨rfl, g1, g2, g3, g4⟩⟩ | exact ⟨_, _, _, _, _, _, _, _, _, _, _, _, _, _, _, _, _, _, _, _, rfl, .inr ⟨hx, rfl, rfl⟩⟩)
        | (refine st_ret (by simp only [dn, reduceCtorEq, g1] <;> rfl) ?_
           rfl)
        | fail "no step")
    · rw [if_neg hx] at he
      subst he
      have hg : r = 0 ∧ b = 0 := by omega
      obtain ⟨rfl, rfl⟩ := hg
      simp only [List.cons_append, List.nil_append]
      repeat' (first
        | (first
          | (with_reducible refine st_need ?_ ?_
             focus (simp only [dn, reduceCtorEq, hx] <;> first | omega | assumption))
          | (with_reducible refine st_and ?_ ?_)
          | (with_reducible exact st_ok)
          | (with_reducible refine st_br (fun hc => ?_) (fun hc => ?_) <;> (simp only [dn, reduceCtorEq, hx] at hc) <;> (try (exfalso; first | contradiction | omega)))
          | (refine st_call (by rfl) (by simp only [dn, reduceCtorEq, hx] <;> rfl) ?_ (by simp only [out_atP, out_atQ, out_store, fo_store] <;> rfl) (by simp only [dn] <;> rfl) ?_
             focus (first | exact ⟨_, _, _, _, _, _, _, _, _, _, _, _, _, _, _, rfl⟩ | exact ⟨_, _, _, rfl, hM⟩)))
        | (refine st_mk (by rfl) (by simp only [dn, reduceCtorEq, hx] <;> rfl) ?_ (by simp only [dn] <;> rfl) ?_
           focus first | exact ⟨_, _, _, _, _, _, _, _, _, _, _, _, _, _, _, _, _, _, _, _, rfl, .inl ⟨rfl, g1, g2, g3, g4⟩⟩ | exact ⟨_, _, _, _, _, _, _, _, _, _, _, _, _, _, _, _, _, _, _, _, rfl, .inr ⟨hx, rfl, rfl⟩⟩)
        | (refine st_ret (by simp only [dn, reduceCtorEq, hx] <;> rfl) ?_
           (try simp only [rlay9, rlay9Obj, if_neg hx]); rfl)
        | fail "no step")
theorem hQLayBy : cQLayBy.Holds objs Tryz.prog := runCtr_holds (X := { cxYi Tryz.prog with hints := hsQLayBy }) objsOk mixed noCts (callable _ Tryz.func34 (by kernel_rfl) (by kernel_rfl)) (by rintro ins _ ⟨_, rfl, _⟩; rfl) (by rw [rQLayBy]; exact vQLayBy _ _)
end Go.Proofs.YtbmbiiiacajolaaGreat
