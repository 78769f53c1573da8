/- Towers of none: contracts. -/
import Derived.Test.YtbmbiiiacajolaaNa
import Derived.Test.YtbmbiiiacajolaaNl
namespace Go.Proofs.Ytbmbiiiacajolaa
set_option linter.unusedVariables false
set_option linter.unusedSimpArgs false
set_option linter.unusedSectionVars false
open Go

def chT : SV := .agg ([16, 14, 2, 0, 1, 3, 4, 7, 9, 8, 9, 2, 11].map fun n => .int .i64 (.lit n))
/-- a ref beyond the nodes is refused -/
def cRefB : Ctr U :=
  { fn := 69, nin := 1, args := [chT, .int .u64 (.var 0), .int .i64 (.lit 1), .int .i64 (.lit 1)], heap := [], pre := fun ins => ∃ p : Int, 0 ≤ p ∧ p < 9 ∧ ins = [.i (65540 + p)]
    nout := 0, out := fun _ => [], ret := .int .i64 (.lit 3), post := [] }
def ctsRB : List (Ctr U) := [lit lSC]
def cxRB (P : Program) : Cx U := { cx P ctsRB with join := true }
def ctsTN : List (Ctr U) := lsNl.map lit ++ [cSf, cPick, cRefB]
def cxTN (P : Program) : Cx U := { cx P ctsTN with join := true }
theorem ctsTN_is : ctsTN = [lit lNl0, lit lNl2, lit lNl3, lit lNl4, lit lNl6, lit lNl7, lit lNl8, lit lNl9, lit lNl10, lit lNl12, lit lNl13, lit lNl16, lit lNl18, lit lNl22, lit lNl26, lit lNl30, lit lNl34, lit lNl38, lit lNl40, lit lNl41, lit lNl43, lit lNl44, lit lNl45, lit lNl53, lit lNl54, lit lNl55, lit lNl79, lit lTAx, cSf, cPick, cRefB] := rfl
theorem lit_pre (l : Lit) (ins : List (EV U)) : (lit l).pre ins = (ins = []) := by unfold lit; split <;> rfl
theorem o_lNl0 (ins : List (EV U)) : (lit lNl0).out ins = [] := rfl
theorem o_lNl2 (ins : List (EV U)) : (lit lNl2).out ins = [] := rfl
theorem o_lNl3 (ins : List (EV U)) : (lit lNl3).out ins = [] := rfl
theorem o_lNl4 (ins : List (EV U)) : (lit lNl4).out ins = [] := rfl
theorem o_lNl6 (ins : List (EV U)) : (lit lNl6).out ins = [] := rfl
theorem o_lNl7 (ins : List (EV U)) : (lit lNl7).out ins = [] := rfl
theorem o_lNl8 (ins : List (EV U)) : (lit lNl8).out ins = [] := rfl
theorem o_lNl9 (ins : List (EV U)) : (lit lNl9).out ins = [] := rfl
theorem o_lNl10 (ins : List (EV U)) : (lit lNl10).out ins = [] := rfl
theorem o_lNl12 (ins : List (EV U)) : (lit lNl12).out ins = [] := rfl
theorem o_lNl13 (ins : List (EV U)) : (lit lNl13).out ins = [] := rfl
theorem o_lNl16 (ins : List (EV U)) : (lit lNl16).out ins = [] := rfl
theorem o_lNl18 (ins : List (EV U)) : (lit lNl18).out ins = [] := rfl
theorem o_lNl22 (ins : List (EV U)) : (lit lNl22).out ins = [] := rfl
theorem o_lNl26 (ins : List (EV U)) : (lit lNl26).out ins = [] := rfl
theorem o_lNl30 (ins : List (EV U)) : (lit lNl30).out ins = [] := rfl
theorem o_lNl34 (ins : List (EV U)) : (lit lNl34).out ins = [] := rfl
theorem o_lNl38 (ins : List (EV U)) : (lit lNl38).out ins = [] := rfl
theorem o_lNl40 (ins : List (EV U)) : (lit lNl40).out ins = [] := rfl
theorem o_lNl41 (ins : List (EV U)) : (lit lNl41).out ins = [] := rfl
theorem o_lNl43 (ins : List (EV U)) : (lit lNl43).out ins = [] := rfl
theorem o_lNl44 (ins : List (EV U)) : (lit lNl44).out ins = [] := rfl
theorem o_lNl45 (ins : List (EV U)) : (lit lNl45).out ins = [] := rfl
theorem o_lNl53 (ins : List (EV U)) : (lit lNl53).out ins = [] := rfl
theorem o_lNl54 (ins : List (EV U)) : (lit lNl54).out ins = [] := rfl
theorem o_lNl55 (ins : List (EV U)) : (lit lNl55).out ins = [] := rfl
theorem o_lNl79 (ins : List (EV U)) : (lit lNl79).out ins = [] := rfl
theorem o_lTAx (ins : List (EV U)) : (lit lTAx).out ins = [.b true] := rfl
end Go.Proofs.Ytbmbiiiacajolaa
