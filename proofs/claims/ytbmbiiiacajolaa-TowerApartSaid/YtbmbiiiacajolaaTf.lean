/- The five calls of Fits with known towers. -/
import Derived.Test.YtbmbiiiacajolaaLt
namespace Go.Proofs.Ytbmbiiiacajolaa
set_option linter.unusedVariables false
set_option linter.unusedSimpArgs false
set_option linter.unusedSectionVars false
open Go Go.RowKit
set_option maxRecDepth 1000000

def lTf0 : Lit := ⟨51, [.agg [.int .i64 (.lit 16), .int .i64 (.lit 14), .int .i64 (.lit 2), .int .i64 (.lit 0), .int .i64 (.lit 1), .int .i64 (.lit 3), .int .i64 (.lit 4), .int .i64 (.lit 7), .int .i64 (.lit 9), .int .i64 (.lit 8), .int .i64 (.lit 9), .int .i64 (.lit 2), .int .i64 (.lit 11)], .int .i64 (.lit 34)], [], .int .i64 (.lit 0), []⟩
theorem klTf0 : runL [] lTf0 := by intro cs; kernel_rfl
theorem hlTf0 : (lit lTf0).Holds objs Try.prog := lit_holds (callable _ Try.func51 (by kernel_rfl) (by kernel_rfl)) all_nil klTf0
def lTf1 : Lit := ⟨51, [.agg [.int .i64 (.lit 16), .int .i64 (.lit 14), .int .i64 (.lit 2), .int .i64 (.lit 0), .int .i64 (.lit 1), .int .i64 (.lit 3), .int .i64 (.lit 4), .int .i64 (.lit 7), .int .i64 (.lit 9), .int .i64 (.lit 8), .int .i64 (.lit 9), .int .i64 (.lit 2), .int .i64 (.lit 11)], .int .i64 (.lit 33)], [], .int .i64 (.lit 2), []⟩
theorem klTf1 : runL [] lTf1 := by intro cs; kernel_rfl
theorem hlTf1 : (lit lTf1).Holds objs Try.prog := lit_holds (callable _ Try.func51 (by kernel_rfl) (by kernel_rfl)) all_nil klTf1
def lTf2 : Lit := ⟨51, [.agg [.int .i64 (.lit 16), .int .i64 (.lit 14), .int .i64 (.lit 2), .int .i64 (.lit 0), .int .i64 (.lit 1), .int .i64 (.lit 3), .int .i64 (.lit 4), .int .i64 (.lit 7), .int .i64 (.lit 9), .int .i64 (.lit 8), .int .i64 (.lit 9), .int .i64 (.lit 2), .int .i64 (.lit 11)], .int .i64 (.lit 0)], [], .int .i64 (.lit 3), []⟩
theorem klTf2 : runL [] lTf2 := by intro cs; kernel_rfl
theorem hlTf2 : (lit lTf2).Holds objs Try.prog := lit_holds (callable _ Try.func51 (by kernel_rfl) (by kernel_rfl)) all_nil klTf2
def lTf3 : Lit := ⟨51, [.agg [.int .i64 (.lit 16), .int .i64 (.lit 13), .int .i64 (.lit 2), .int .i64 (.lit 0), .int .i64 (.lit 1), .int .i64 (.lit 3), .int .i64 (.lit 4), .int .i64 (.lit 7), .int .i64 (.lit 9), .int .i64 (.lit 8), .int .i64 (.lit 9), .int .i64 (.lit 2), .int .i64 (.lit 11)], .int .i64 (.lit 34)], [], .int .i64 (.lit 2), []⟩
theorem klTf3 : runL [] lTf3 := by intro cs; kernel_rfl
theorem hlTf3 : (lit lTf3).Holds objs Try.prog := lit_holds (callable _ Try.func51 (by kernel_rfl) (by kernel_rfl)) all_nil klTf3
def lTf4 : Lit := ⟨51, [.agg [.int .i64 (.lit 16), .int .i64 (.lit 14), .int .i64 (.lit 5), .int .i64 (.lit 0), .int .i64 (.lit 1), .int .i64 (.lit 3), .int .i64 (.lit 4), .int .i64 (.lit 7), .int .i64 (.lit 9), .int .i64 (.lit 8), .int .i64 (.lit 9), .int .i64 (.lit 2), .int .i64 (.lit 11)], .int .i64 (.lit 100)], [], .int .i64 (.lit 2), []⟩
theorem klTf4 : runL [] lTf4 := by intro cs; kernel_rfl
theorem hlTf4 : (lit lTf4).Holds objs Try.prog := lit_holds (callable _ Try.func51 (by kernel_rfl) (by kernel_rfl)) all_nil klTf4
end Go.Proofs.Ytbmbiiiacajolaa
