/- FindKnown: its walk. -/
import Derived.Test.YtbmbiiiacajolaaFk
namespace Go.Proofs.Ytbmbiiiacajolaa
set_option linter.unusedVariables false
set_option linter.unusedSimpArgs false
set_option linter.unusedSectionVars false
open Go Go.RowKit

theorem findKnown_walk (W : World) : Calls Try.prog 6 #[] W fun e W' => e = .returned (.bool true) ∧ Below W.heap.size W W' :=
  hFk.law0 rfl rfl rfl rfl rfl rfl W
end Go.Proofs.Ytbmbiiiacajolaa
