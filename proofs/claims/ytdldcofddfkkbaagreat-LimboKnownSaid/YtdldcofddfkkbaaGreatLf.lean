/- The four calls of Fits with known layouts. -/
import Derived.Test.YtdldcofddfkkbaaGreatLt
namespace Go.Proofs.YtdldcofddfkkbaaGreat
set_option linter.unusedVariables false
set_option linter.unusedSimpArgs false
set_option linter.unusedSectionVars false
open Go Go.RowKit
def qi (n : Int) : SV := .int .i64 (.lit n)
def qu (n : Int) : SV := .int .u64 (.lit n)
def qt : SV := .bool (.lit true)
def qf : SV := .bool (.lit false)

def lLf0 : Lit := ⟨30, [.agg [.int .i64 (.lit 0), .int .i64 (.lit 1), .int .i64 (.lit 3), .int .i64 (.lit 4), .int .i64 (.lit 7), .int .i64 (.lit 9), .int .i64 (.lit 8), .int .i64 (.lit 9), .int .i64 (.lit 2), .int .i64 (.lit 11)], .int .i64 (.lit 14)], [], .int .i64 (.lit 0), []⟩
set_option maxRecDepth 1000000 in
theorem klLf0 : runL [] lLf0 := by intro cs; kernel_rfl
theorem hlLf0 : (lit lLf0).Holds objs Tryz.prog := lit_holds (callable _ Tryz.func30 (by kernel_rfl) (by kernel_rfl)) all_nil klLf0
def lLf1 : Lit := ⟨30, [.agg [.int .i64 (.lit 0), .int .i64 (.lit 1), .int .i64 (.lit 3), .int .i64 (.lit 4), .int .i64 (.lit 7), .int .i64 (.lit 9), .int .i64 (.lit 8), .int .i64 (.lit 9), .int .i64 (.lit 2), .int .i64 (.lit 11)], .int .i64 (.lit 13)], [], .int .i64 (.lit 2), []⟩
set_option maxRecDepth 1000000 in
theorem klLf1 : runL [] lLf1 := by intro cs; kernel_rfl
theorem hlLf1 : (lit lLf1).Holds objs Tryz.prog := lit_holds (callable _ Tryz.func30 (by kernel_rfl) (by kernel_rfl)) all_nil klLf1
def lLf2 : Lit := ⟨30, [.agg [.int .i64 (.lit 0), .int .i64 (.lit 1), .int .i64 (.lit 3), .int .i64 (.lit 4), .int .i64 (.lit 7), .int .i64 (.lit 9), .int .i64 (.lit 8), .int .i64 (.lit 9), .int .i64 (.lit 2), .int .i64 (.lit 9)], .int .i64 (.lit 14)], [], .int .i64 (.lit 2), []⟩
set_option maxRecDepth 1000000 in
theorem klLf2 : runL [] lLf2 := by intro cs; kernel_rfl
theorem hlLf2 : (lit lLf2).Holds objs Tryz.prog := lit_holds (callable _ Tryz.func30 (by kernel_rfl) (by kernel_rfl)) all_nil klLf2
def lLf3 : Lit := ⟨30, [.agg [.int .i64 (.lit 0), .int .i64 (.lit 1), .int .i64 (.lit 3), .int .i64 (.lit 4), .int .i64 (.lit 7), .int .i64 (.lit 9), .int .i64 (.lit 8), .int .i64 (.lit 9), .int .i64 (.lit 2), .int .i64 (.lit 9)], .int .i64 (.lit 0)], [], .int .i64 (.lit 3), []⟩
set_option maxRecDepth 1000000 in
theorem klLf3 : runL [] lLf3 := by intro cs; kernel_rfl
theorem hlLf3 : (lit lLf3).Holds objs Tryz.prog := lit_holds (callable _ Tryz.func30 (by kernel_rfl) (by kernel_rfl)) all_nil klLf3
end Go.Proofs.YtdldcofddfkkbaaGreat
