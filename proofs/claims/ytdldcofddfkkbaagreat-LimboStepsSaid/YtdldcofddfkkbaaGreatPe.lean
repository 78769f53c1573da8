/- Which limbos and towers may be: loops. -/
import Derived.Test.YtdldcofddfkkbaaGreatPd
namespace Go.Proofs.YtdldcofddfkkbaaGreat
set_option linter.unusedVariables false
set_option linter.unusedSimpArgs false
set_option linter.unusedSectionVars false
open Go Go.RowKit

def ctsPe : List (Ctr U) := [cSFits, cEFits, cAFits, cHeld1, cHeld2, cSnd15]
theorem hctsPe : ∀ (ci : Nat) (c : Ctr U), ctsPe[ci]? = some c → c.Holds objs Tryz.prog := by
  intro ci c h
  match ci, h with
  | 0, h => cases h; exact hSFits
  | 1, h => cases h; exact hEFits
  | 2, h => cases h; exact hAFits
  | 3, h => cases h; exact hHeld1
  | 4, h => cases h; exact hHeld2
  | 5, h => cases h; exact hSnd15
  | n + 6, h => cases h
/-! ### limbos -/
def liFacts (t l s g w m ea ep ec tp c : Int) : Prop := fits11 t l s g w m c = 0 ∧ fits12 ea ep ec c = 0 ∧ 0 ≤ tp ∧ tp ≤ c - 3 ∧ 1 ≤ c ∧ c ≤ 4096
def liInv (env : List (EV U)) : Prop := ∃ t l s g w m ea ep ec tp c : Int, ∃ x11 x12 x13 : EV U, ∃ V d S : List Int, ∃ cap k : Int, env = [.i t, .i l, .i s, .i g, .i w, .i m, .i ea, .i ep, .i ec, .i tp, .i c, x11, x12, x13, .l (V ++ d), .i V.length, .i cap, .l S, .i k] ∧ V = held13 t l s g w ea ep ec tp ∧ liFacts t l s g w m ea ep ec tp c ∧
  0 ≤ k ∧ k ≤ V.length ∧ (∀ x, x ∈ S ↔ x ∈ V.take k.toNat) ∧ (V.take k.toNat).Nodup
def lLi : LoopS U := { fn := 30, rid := 7, nv := 2, tm := [(44, .int .i64 (.var 18))], hp := [(1, .mp 17)], reb := [], inv := liInv, mu := fun env => (gI env 15 - gI env 18).toNat }
def cxPe0 (P : Program) : Cx U := { cx P ctsPe with join := true, loops := [lLi] }
end Go.Proofs.YtdldcofddfkkbaaGreat
