/- The chapter's examples: the laws that take nothing. -/
import Derived.Test.YtbkaclkbjpdfnaaCkT
import Derived.Test.YtbkaclkbjpdfnaaSv
namespace Go.Proofs.Ytbkaclkbjpdfnaa
set_option linter.unusedVariables false
set_option linter.unusedSimpArgs false
set_option linter.unusedSectionVars false
open Go Go.RowKit

set_option maxRecDepth 100000 in
theorem vKnown (P : Program) : ∀ ins, ins.length = cKnown.nin → cKnown.pre ins → tKnown.sat (cx P ctsC) (ctrR cKnown) ins := by
  rintro ins _ rfl
  refine satB_sound (preB := preC) (RB := fun _ o => oneB o) preC_spec (fun e o h => ?_) _ _ (by kernel_rfl)
  exact oneB_spec h
set_option maxRecDepth 100000 in
theorem vAwake (P : Program) : ∀ ins, ins.length = cAwake.nin → cAwake.pre ins → tAwake.sat (cx P ctsC) (ctrR cAwake) ins := by
  rintro ins _ rfl
  refine satB_sound (preB := preC) (RB := fun _ o => oneB o) preC_spec (fun e o h => ?_) _ _ (by kernel_rfl)
  exact oneB_spec h
theorem hKnown : cKnown.Holds objs Try.prog := runCtr_holds (X := cx Try.prog ctsC) objsOk mixed hctsC (callable _ Try.func4 (by kernel_rfl) (by kernel_rfl)) (by rintro ins _ rfl; rfl) (by rw [rKnown]; exact vKnown _)
theorem hAwake : cAwake.Holds objs Try.prog := runCtr_holds (X := cx Try.prog ctsC) objsOk mixed hctsC (callable _ Try.func27 (by kernel_rfl) (by kernel_rfl)) (by rintro ins _ rfl; rfl) (by rw [rAwake]; exact vAwake _)
theorem cellsKnown_walk (W : World) : Calls Try.prog 4 #[] W fun e W' => e = .returned (.bool true) ∧ Below W.heap.size W W' :=
  hKnown.law0 rfl rfl rfl rfl rfl rfl W
end Go.Proofs.Ytbkaclkbjpdfnaa
