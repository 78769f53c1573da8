/- InsertKnown: its walk. -/
import Derived.Test.YtdldcofddfkkbaaGreatIk
namespace Go.Proofs.YtdldcofddfkkbaaGreat
set_option linter.unusedVariables false
set_option linter.unusedSimpArgs false
set_option linter.unusedSectionVars false
open Go Go.RowKit

theorem insertKnown_walk (W : World) : Calls Tryz.prog 7 #[] W fun e W' => e = .returned (.bool true) ∧ Below W.heap.size W W' :=
  hIk.law0 rfl rfl rfl rfl rfl rfl W
end Go.Proofs.YtdldcofddfkkbaaGreat
