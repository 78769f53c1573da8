/- JobKnown: its walk. -/
import Derived.Test.YtdabdbbgaekmdaaJk
namespace Go.Proofs.Ytdabdbbgaekmdaa
set_option linter.unusedVariables false
set_option linter.unusedSimpArgs false
set_option linter.unusedSectionVars false
open Go Go.RowKit

theorem jobKnown_walk (W : World) : Calls Try.prog 10 #[] W fun e W' => e = .returned (.bool true) ∧ Below W.heap.size W W' :=
  hJk.law0 rfl rfl rfl rfl rfl rfl W
end Go.Proofs.Ytdabdbbgaekmdaa
