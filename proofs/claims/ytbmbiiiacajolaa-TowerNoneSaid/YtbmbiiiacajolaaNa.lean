/- Towers and Finds of none: contracts. -/
import Derived.Test.YtbmbiiiacajolaaTd
import Derived.Test.YtbmbiiiacajolaaLt
namespace Go.Proofs.Ytbmbiiiacajolaa
set_option linter.unusedVariables false
set_option linter.unusedSimpArgs false
set_option linter.unusedSectionVars false
open Go

/-- is a tower sound? asked where it is known -/
def cSnd (b : Bool) (f : FuncId) : Ctr U :=
  { fn := f, nin := 13, args := [twV 0], heap := [], pre := fun ins => ∃ a0 a1 a2 a3 a4 a5 a6 a7 a8 a9 a10 a11 a12 : Int, ins = [.i a0, .i a1, .i a2, .i a3, .i a4, .i a5, .i a6, .i a7, .i a8, .i a9, .i a10, .i a11, .i a12] ∧ okT a0 a1 a2 a5 = b
    nout := 0, out := fun _ => [], ret := .bool (.lit b), post := [] }
def cSndB (f : FuncId) : Ctr U :=
  { fn := f, nin := 13, args := [twV 0], heap := [], pre := fun ins => ∃ a0 a1 a2 a3 a4 a5 a6 a7 a8 a9 a10 a11 a12 : Int, ins = [.i a0, .i a1, .i a2, .i a3, .i a4, .i a5, .i a6, .i a7, .i a8, .i a9, .i a10, .i a11, .i a12]
    nout := 1, out := fun ins => [.b (okT (gI ins 0) (gI ins 1) (gI ins 2) (gI ins 5))], ret := .bool (.var 13), post := [] }
theorem cSnd_of {P : Program} {f : FuncId} {b : Bool} (h : (cSndB f).Holds objs P) : (cSnd b f).Holds objs P := by
  refine ⟨h.1, ?_, ?_⟩
  · rintro ins outs h1 h2 h3
    have : outs = [] := h3
    subst this
    rfl
  · rintro ins ρ w vals F hl ⟨a0, a1, a2, a3, a4, a5, a6, a7, a8, a9, a10, a11, a12, rfl, hk⟩ ha hs
    refine (h.2.2 _ ρ w vals F hl ⟨_, _, _, _, _, _, _, _, _, _, _, _, _, rfl⟩ ha hs).mono ?_
    rintro e w' ⟨r, ρ', outs, hm, he, hd, hsat⟩
    have hm' : outs = [.b (okT a0 a1 a2 a5)] := hm
    rw [hk] at hm'
    subst hm'
    have h1 : Value.bool b = r := hd.1 [] []
    subst h1
    refine ⟨_, ρ', [], rfl, he, ⟨fun _ _ => rfl, trivial⟩, hsat.len, ?_, hsat.frame⟩
    obtain ⟨S, hS⟩ := hsat.own
    exact ⟨S, ⟨fun n h hn => by simp [cSnd] at hn, hS.disj, hS.dom⟩⟩
def cSB : Ctr U := cSndB 61
def cRSB : Ctr U := cSndB 39
def cSt : Ctr U := cSnd true 61
def cSf : Ctr U := cSnd false 61
def cRSt : Ctr U := cSnd true 39
def cRSf : Ctr U := cSnd false 39
/-- a tower of a known height -/
def twH (h : Int) : SV := .agg [.int .i64 (.var 0), .int .i64 (.var 1), .int .i64 (.lit h), .int .i64 (.var 3), .int .i64 (.var 4), .int .i64 (.var 5), .int .i64 (.var 6), .int .i64 (.var 7), .int .i64 (.var 8), .int .i64 (.var 9), .int .i64 (.var 10), .int .i64 (.var 11), .int .i64 (.var 12)]
def cFNone (h : Int) : Ctr U :=
  { fn := 5, nin := 14, args := [twH h, .int .u64 (.var 13)], heap := [], pre := fun ins => ∃ a0 a1 a2 a3 a4 a5 a6 a7 a8 a9 a10 a11 a12 k : Int, ins = [.i a0, .i a1, .i a2, .i a3, .i a4, .i a5, .i a6, .i a7, .i a8, .i a9, .i a10, .i a11, .i a12, .i k] ∧ a2 = h ∧ okT a0 a1 h a5 = true
    nout := 1, out := fun _ => [.b true], ret := .bool (.var 14), post := [] }
def cFNoneU : Ctr U :=
  { fn := 5, nin := 14, args := [twV 0, .int .u64 (.var 13)], heap := [], pre := fun ins => ∃ a0 a1 a2 a3 a4 a5 a6 a7 a8 a9 a10 a11 a12 k : Int, ins = [.i a0, .i a1, .i a2, .i a3, .i a4, .i a5, .i a6, .i a7, .i a8, .i a9, .i a10, .i a11, .i a12, .i k] ∧ okT a0 a1 a2 a5 = false
    nout := 1, out := fun _ => [.b true], ret := .bool (.var 14), post := [] }
def ctsNT : List (Ctr U) := [cSt, cRSt, boolC 40]
def ctsNF : List (Ctr U) := [cSf, cRSf, boolC 40]
def cxNT (P : Program) : Cx U := { cx P ctsNT with join := true }
def cxNF (P : Program) : Cx U := { cx P ctsNF with join := true }
def cTNone : Ctr U :=
  { fn := 4, nin := 1, args := [.int .i64 (.var 0)], heap := [], pre := fun ins => ∃ n : Int, ins = [.i n]
    nout := 1, out := fun _ => [.b true], ret := .bool (.var 1), post := [] }
def lSC : Lit := ⟨61, [.agg ([16, 14, 2, 0, 1, 3, 4, 7, 9, 8, 9, 2, 11].map fun n => .int .i64 (.lit n))], [], .bool (.lit true), []⟩
def ctsNN : List (Ctr U) := [lit lSC, cSf, cPick, boolC 18]
def cxNN (P : Program) : Cx U := { cx P ctsNN with join := true }
end Go.Proofs.Ytbmbiiiacajolaa
