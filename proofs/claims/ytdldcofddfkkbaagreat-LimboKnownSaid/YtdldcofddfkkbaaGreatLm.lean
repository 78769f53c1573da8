/- LimboKnown: its walk. -/
import Derived.Test.YtdldcofddfkkbaaGreatLk
namespace Go.Proofs.YtdldcofddfkkbaaGreat
set_option linter.unusedVariables false
set_option linter.unusedSimpArgs false
set_option linter.unusedSectionVars false
open Go Go.RowKit

theorem limboKnown_walk (W : World) : Calls Tryz.prog 4 #[] W fun e W' => e = .returned (.bool true) ∧ Below W.heap.size W W' :=
  hLk.law0 rfl rfl rfl rfl rfl rfl W
end Go.Proofs.YtdldcofddfkkbaaGreat
