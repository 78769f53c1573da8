/- Towers: awake, by running: the contract holds. -/
import Derived.Test.YtbmbiiiacajolaaTbT
namespace Go.Proofs.Ytbmbiiiacajolaa
set_option linter.unusedVariables false
set_option linter.unusedSimpArgs false
set_option linter.unusedSectionVars false
open Go Go.RowKit

theorem noCtsJ {p : Ctr U → Prop} : ∀ (ci : Nat) (c : Ctr U), ([] : List (Ctr U))[ci]? = some c → p c := by intro ci c h; simp at h
set_option maxRecDepth 1000000 in
theorem kTAwake : ∀ cs, tTAwake.satC (cxJ Try.prog) (fun _ _ => false) okN (fun _ o => oneB o) cs 0 [] [] = true := by intro cs; kernel_rfl
set_option maxRecDepth 100000 in
theorem hTAwake : cTAwake.Holds objs Try.prog := runCtr_holds (X := cxJ Try.prog) (fuel := 60) (opens := []) (folds := []) objsOk mixed noCtsJ (callable _ Try.func18 (by kernel_rfl) (by kernel_rfl)) (by rintro ins _ rfl; rfl)
  (by
    rintro ins _ rfl
    rw [rTAwake]
    refine satC_sound (RB := fun _ o => oneB o) (preB := fun _ _ => false) (okB := okN) ?_ ?_ ?_ _ 0 [] [] CapsOk.nil ?_
    · intro ci c ins h hp; cases hp
    · exact okN_spec
    · exact fun e o h => oneB_spec h
    · exact kTAwake)
end Go.Proofs.Ytbmbiiiacajolaa
