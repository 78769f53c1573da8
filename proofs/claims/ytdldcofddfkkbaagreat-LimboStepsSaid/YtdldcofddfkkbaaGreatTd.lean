/- Towers: places: contracts. -/
import Derived.Test.YtdldcofddfkkbaaGreatMf
namespace Go.Proofs.YtdldcofddfkkbaaGreat
set_option linter.unusedVariables false
set_option linter.unusedSimpArgs false
set_option linter.unusedSectionVars false
open Go

/-- a tower, field by field, from a number on -/
def twV (j : Nat) : SV := .agg [.int .i64 (.var j), .int .i64 (.var (j + 1)), .int .i64 (.var (j + 2)), .int .i64 (.var (j + 3)), .int .i64 (.var (j + 4)), .int .i64 (.var (j + 5)), .int .i64 (.var (j + 6)), .int .i64 (.var (j + 7)), .int .i64 (.var (j + 8)), .int .i64 (.var (j + 9)), .int .i64 (.var (j + 10)), .int .i64 (.var (j + 11)), .int .i64 (.var (j + 12))]
def okT (n h w s : Int) : Bool := decide (1 ≤ w ∧ w ≤ 4 ∧ 1 ≤ s ∧ s ≤ 128 ∧ 0 ≤ n ∧ n < 4096 ∧ 0 ≤ h ∧ h < 4096)
end Go.Proofs.YtdldcofddfkkbaaGreat
