/- TowerKnown: its walk. -/
import Derived.Test.YtbmbiiiacajolaaTk
namespace Go.Proofs.Ytbmbiiiacajolaa
set_option linter.unusedVariables false
set_option linter.unusedSimpArgs false
set_option linter.unusedSectionVars false
open Go Go.RowKit

theorem towerKnown_walk (W : World) : Calls Try.prog 8 #[] W fun e W' => e = .returned (.bool true) ∧ Below W.heap.size W W' :=
  hTk.law0 rfl rfl rfl rfl rfl rfl W
end Go.Proofs.Ytbmbiiiacajolaa
