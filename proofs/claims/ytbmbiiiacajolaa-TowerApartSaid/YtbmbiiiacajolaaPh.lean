/- Cells of a tower are apart: the law's contract, its loops. -/
import Derived.Test.YtbmbiiiacajolaaPg
import Derived.Test.YtbmbiiiacajolaaTdW
import Derived.Test.YtbmbiiiacajolaaTk
namespace Go.Proofs.Ytbmbiiiacajolaa
set_option linter.unusedVariables false
set_option linter.unusedSimpArgs false
set_option linter.unusedSectionVars false
open Go Go.RowKit

def ctsPh : List (Ctr U) := [cTFits, cWho, cAt, cHeld3, boolC 8]
theorem hctsPh : ∀ (ci : Nat) (c : Ctr U), ctsPh[ci]? = some c → c.Holds objs Try.prog := by
  intro ci c h
  match ci, h with
  | 0, h => cases h; exact hTFits
  | 1, h => cases h; exact hWho
  | 2, h => cases h; exact hAt
  | 3, h => cases h; exact hHeld3
  | 4, h => cases h; exact hTk
  | n + 5, h => cases h
def cTApart : Ctr U :=
  { fn := 9, nin := 14, args := [twV 0, .int .i64 (.var 13)], heap := []
    pre := fun ins => ∃ n h k t l s g w m ea ep ec tp c, ins = [.i n, .i h, .i k, .i t, .i l, .i s, .i g, .i w, .i m, .i ea, .i ep, .i ec, .i tp, .i c], nout := 1, out := fun _ => [.b true], ret := .bool (.var 14), post := [] }
/-- so many cells of a row, of so many cells from a first one on, are below a cell -/
def upto (f q k : Int) : Int := if k ≤ f then 0 else if f + q ≤ k then q else k - f
def apFacts (n h a t l s g w m ea ep ec tp c : Int) : Prop := fits15 n h a t l s g w m ea ep ec tp c = 0
def apInv1 (env : List (EV U)) : Prop := ∃ n h a t l s g w m ea ep ec tp c : Int, ∃ x15 : EV U, ∃ k : Int, env = [.i n, .i h, .i a, .i t, .i l, .i s, .i g, .i w, .i m, .i ea, .i ep, .i ec, .i tp, .i c, .b true, x15, .i (upto n (s * (4 + a)) k + upto h a k), .i k] ∧ apFacts n h a t l s g w m ea ep ec tp c ∧ 0 ≤ k ∧ k ≤ c
def lAp1 : LoopS U := { fn := 9, rid := 8, nv := 2, tm := [(6, .int .i64 (.var 16)), (7, .int .i64 (.var 17))], hp := [], reb := [], inv := apInv1, mu := fun env => (gI env 13 - gI env 17).toNat }
def apInv2 (env : List (EV U)) : Prop := ∃ n h a t l s g w m ea ep ec tp c : Int, ∃ x15 x17 : EV U, ∃ V d : List Int, ∃ cap k : Int, env = [.i n, .i h, .i a, .i t, .i l, .i s, .i g, .i w, .i m, .i ea, .i ep, .i ec, .i tp, .i c, .b true, x15, .i (s * (4 + a) + a), x17, .l (V ++ d), .i V.length, .i cap, .i k] ∧ apFacts n h a t l s g w m ea ep ec tp c ∧ V = held13 t l s g w ea ep ec tp ∧ 0 ≤ k ∧ k ≤ V.length
def lAp2 : LoopS U := { fn := 9, rid := 17, nv := 1, tm := [(12, .int .i64 (.var 21))], hp := [], reb := [], inv := apInv2, mu := fun env => (gI env 19 - gI env 21).toNat }
def cxPh (P : Program) : Cx U := { cx P ctsPh with join := true, loops := [lAp1, lAp2] }
end Go.Proofs.Ytbmbiiiacajolaa
