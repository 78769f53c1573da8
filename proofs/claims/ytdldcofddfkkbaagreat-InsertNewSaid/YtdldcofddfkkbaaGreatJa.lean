/- Towers and Inserts, new: contracts. -/
import Derived.Test.YtdldcofddfkkbaaGreatIa
import Derived.Test.YtdldcofddfkkbaaGreatWxV
namespace Go.Proofs.YtdldcofddfkkbaaGreat
set_option linter.unusedVariables false
set_option linter.unusedSimpArgs false
set_option linter.unusedSectionVars false
open Go

def okT (n h w s : Int) : Bool := decide (1 ≤ w ∧ w ≤ 4 ∧ 1 ≤ s ∧ s ≤ 128 ∧ 0 ≤ n ∧ n < 4096 ∧ 0 ≤ h ∧ h < 4096)
def twV (j : Nat) : SV := .agg [.int .i64 (.var j), .int .i64 (.var (j + 1)), .int .i64 (.var (j + 2)), .int .i64 (.var (j + 3)), .int .i64 (.var (j + 4)), .int .i64 (.var (j + 5)), .int .i64 (.var (j + 6)), .int .i64 (.var (j + 7)), .int .i64 (.var (j + 8)), .int .i64 (.var (j + 9)), .int .i64 (.var (j + 10)), .int .i64 (.var (j + 11)), .int .i64 (.var (j + 12))]

/-- is a tower sound? asked where it is known -/
def cSnd (b : Bool) (f : FuncId) : Ctr U :=
  { fn := f, nin := 13, args := [twV 0], heap := [], pre := fun ins => ∃ a0 a1 a2 a3 a4 a5 a6 a7 a8 a9 a10 a11 a12 : Int, ins = [.i a0, .i a1, .i a2, .i a3, .i a4, .i a5, .i a6, .i a7, .i a8, .i a9, .i a10, .i a11, .i a12] ∧ okT a0 a1 a2 a5 = b
    nout := 0, out := fun _ => [], ret := .bool (.lit b), post := [] }
def cSndB (f : FuncId) : Ctr U :=
  { fn := f, nin := 13, args := [twV 0], heap := [], pre := fun ins => ∃ a0 a1 a2 a3 a4 a5 a6 a7 a8 a9 a10 a11 a12 : Int, ins = [.i a0, .i a1, .i a2, .i a3, .i a4, .i a5, .i a6, .i a7, .i a8, .i a9, .i a10, .i a11, .i a12]
    nout := 1, out := fun ins => [.b (okT (gI ins 0) (gI ins 1) (gI ins 2) (gI ins 5))], ret := .bool (.var 13), post := [] }
theorem cSnd_of {P : Program} {f : FuncId} {b : Bool} (h : (cSndB f).Holds objs P) : (cSnd b f).Holds objs P := by
  refine ⟨h.1, ?_, ?_⟩
  · rintro ins outs h1 h2 h3
    have : outs = [] := h3
    subst this
    rfl
  · rintro ins ρ w vals F hl ⟨a0, a1, a2, a3, a4, a5, a6, a7, a8, a9, a10, a11, a12, rfl, hk⟩ ha hs
    refine (h.2.2 _ ρ w vals F hl ⟨_, _, _, _, _, _, _, _, _, _, _, _, _, rfl⟩ ha hs).mono ?_
    rintro e w' ⟨r, ρ', outs, hm, he, hd, hsat⟩
    have hm' : outs = [.b (okT a0 a1 a2 a5)] := hm
    rw [hk] at hm'
    subst hm'
    have h1 : Value.bool b = r := hd.1 [] []
    subst h1
    refine ⟨_, ρ', [], rfl, he, ⟨fun _ _ => rfl, trivial⟩, hsat.len, ?_, hsat.frame⟩
    obtain ⟨S, hS⟩ := hsat.own
    exact ⟨S, ⟨fun n h hn => by simp [cSnd] at hn, hS.disj, hS.dom⟩⟩
def cSB : Ctr U := cSndB 140
def cRSB : Ctr U := cSndB 121
def cSt : Ctr U := cSnd true 140
def cSf : Ctr U := cSnd false 140
def cRSt : Ctr U := cSnd true 121
def cRSf : Ctr U := cSnd false 121
/-- a tower of a known height -/
def twH (h : Int) : SV := .agg [.int .i64 (.var 0), .int .i64 (.var 1), .int .i64 (.lit h), .int .i64 (.var 3), .int .i64 (.var 4), .int .i64 (.var 5), .int .i64 (.var 6), .int .i64 (.var 7), .int .i64 (.var 8), .int .i64 (.var 9), .int .i64 (.var 10), .int .i64 (.var 11), .int .i64 (.var 12)]
def cINew (h : Int) : Ctr U :=
  { fn := 6, nin := 16, args := [twH h, .int .u64 (.var 13), .int .u64 (.var 14), .int .i64 (.var 15)], heap := [], pre := fun ins => ∃ a0 a1 a2 a3 a4 a5 a6 a7 a8 a9 a10 a11 a12 r k g : Int, ins = [.i a0, .i a1, .i a2, .i a3, .i a4, .i a5, .i a6, .i a7, .i a8, .i a9, .i a10, .i a11, .i a12, .i r, .i k, .i g] ∧ a2 = h ∧ okT a0 a1 h a5 = true ∧ isW r
    nout := 1, out := fun _ => [.b true], ret := .bool (.var 16), post := [] }
def cINewU : Ctr U :=
  { fn := 6, nin := 16, args := [twV 0, .int .u64 (.var 13), .int .u64 (.var 14), .int .i64 (.var 15)], heap := [], pre := fun ins => ∃ a0 a1 a2 a3 a4 a5 a6 a7 a8 a9 a10 a11 a12 r k g : Int, ins = [.i a0, .i a1, .i a2, .i a3, .i a4, .i a5, .i a6, .i a7, .i a8, .i a9, .i a10, .i a11, .i a12, .i r, .i k, .i g] ∧ okT a0 a1 a2 a5 = false
    nout := 1, out := fun _ => [.b true], ret := .bool (.var 16), post := [] }
def ctsNT : List (Ctr U) := [cSt, cRSt, boolC 46, cGetRef, cRGetRef]
def ctsNF : List (Ctr U) := [cSf, cRSf, boolC 46, cGetRef, cRGetRef]
def cxNT (P : Program) : Cx U := { cx P ctsNT with join := true }
def cxNF (P : Program) : Cx U := { cx P ctsNF with join := true }
end Go.Proofs.YtdldcofddfkkbaaGreat
