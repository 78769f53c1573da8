/- Calls of a run whose numbers are all known, as a program of ours printed them. -/
import Derived.Test.YtdldcofddfkkbaaGreatLt
import Derived.Test.YtdldcofddfkkbaaGreatLa
namespace Go.Proofs.YtdldcofddfkkbaaGreat
set_option linter.unusedVariables false
set_option linter.unusedSimpArgs false
set_option linter.unusedSectionVars false
open Go Go.RowKit

def lLn80 : Lit := ⟨73, [.ptr 0 0], [.cells [.nilf, .bool (.lit true), .int .i64 (.lit 3), .int .i64 (.lit 0), .int .i64 (.lit 1), .int .i64 (.lit 3), .int .i64 (.lit 4), .int .i64 (.lit 7), .int .i64 (.lit 9), .int .i64 (.lit 8), .int .i64 (.lit 9), .int .i64 (.lit 2), .int .i64 (.lit 11), .int .i64 (.lit 11), .nilp] 41], .int .i64 (.lit 3), [.cells [.nilf, .bool (.lit true), .int .i64 (.lit 3), .int .i64 (.lit 0), .int .i64 (.lit 1), .int .i64 (.lit 3), .int .i64 (.lit 4), .int .i64 (.lit 7), .int .i64 (.lit 9), .int .i64 (.lit 8), .int .i64 (.lit 9), .int .i64 (.lit 2), .int .i64 (.lit 11), .int .i64 (.lit 11), .nilp] 41]⟩
set_option maxRecDepth 1000000 in
theorem klLn80 : runL [lLa] lLn80 := by intro cs; kernel_rfl
theorem hlLn80 : (lit lLn80).Holds objs Tryz.prog := lit_holds (callable _ Tryz.func73 (by kernel_rfl) (by kernel_rfl)) (all_cons hlLa all_nil) klLn80
def lLn81 : Lit := ⟨19, [.ptr 0 0], [.cells [.nilf, .bool (.lit true), .int .i64 (.lit 3), .int .i64 (.lit 0), .int .i64 (.lit 1), .int .i64 (.lit 3), .int .i64 (.lit 4), .int .i64 (.lit 7), .int .i64 (.lit 9), .int .i64 (.lit 8), .int .i64 (.lit 9), .int .i64 (.lit 2), .int .i64 (.lit 11), .int .i64 (.lit 11), .nilp] 41], .int .i64 (.lit 3), [.cells [.nilf, .bool (.lit true), .int .i64 (.lit 3), .int .i64 (.lit 0), .int .i64 (.lit 1), .int .i64 (.lit 3), .int .i64 (.lit 4), .int .i64 (.lit 7), .int .i64 (.lit 9), .int .i64 (.lit 8), .int .i64 (.lit 9), .int .i64 (.lit 2), .int .i64 (.lit 11), .int .i64 (.lit 11), .nilp] 41]⟩
set_option maxRecDepth 1000000 in
theorem klLn81 : runL [lLn80, lLa] lLn81 := by intro cs; kernel_rfl
theorem hlLn81 : (lit lLn81).Holds objs Tryz.prog := lit_holds (callable _ Tryz.func19 (by kernel_rfl) (by kernel_rfl)) (all_cons hlLn80 (all_cons hlLa all_nil)) klLn81
end Go.Proofs.YtdldcofddfkkbaaGreat
