/- Calls of a run whose numbers are all known, as a program of ours printed them. -/
import Derived.Test.YtdldcofddfkkbaaGreatLt
namespace Go.Proofs.YtdldcofddfkkbaaGreat
set_option linter.unusedVariables false
set_option linter.unusedSimpArgs false
set_option linter.unusedSectionVars false
open Go Go.RowKit

def lLa0 : Lit := ⟨15, [.int .i64 (.lit 14)], [], .tuple [.ptr 0 0, .int .i64 (.lit 0)], [.cells [.ptr 1 0, .int .i64 (.lit 14), .int .i64 (.lit 0), .int .i64 (.lit 0), .int .u64 (.lit 0), .int .u64 (.lit 0), .bool (.lit false), .int .i64 (.lit 0)] 150, .sp .u64 148 4096 []]⟩
set_option maxRecDepth 1000000 in
theorem klLa0 : runL [] lLa0 := by intro cs; kernel_rfl
theorem hlLa0 : (lit lLa0).Holds objs Tryz.prog := lit_holds (callable _ Tryz.func15 (by kernel_rfl) (by kernel_rfl)) all_nil klLa0
def lLa1 : Lit := ⟨251, [.agg [.int .i64 (.lit 0), .int .i64 (.lit 1), .int .i64 (.lit 3), .int .i64 (.lit 4), .int .i64 (.lit 7), .int .i64 (.lit 9)]], [], .bool (.lit true), []⟩
set_option maxRecDepth 1000000 in
theorem klLa1 : runL [] lLa1 := by intro cs; kernel_rfl
theorem hlLa1 : (lit lLa1).Holds objs Tryz.prog := lit_holds (callable _ Tryz.func251 (by kernel_rfl) (by kernel_rfl)) all_nil klLa1
def lLa2 : Lit := ⟨249, [.agg [.int .i64 (.lit 0), .int .i64 (.lit 1), .int .i64 (.lit 3)]], [], .bool (.lit true), []⟩
set_option maxRecDepth 1000000 in
theorem klLa2 : runL [] lLa2 := by intro cs; kernel_rfl
theorem hlLa2 : (lit lLa2).Holds objs Tryz.prog := lit_holds (callable _ Tryz.func249 (by kernel_rfl) (by kernel_rfl)) all_nil klLa2
def lLa3 : Lit := ⟨314, [.agg [.int .i64 (.lit 0), .int .i64 (.lit 0)]], [], .tuple [.int .u64 (.lit 1), .int .i64 (.lit 0)], []⟩
set_option maxRecDepth 1000000 in
theorem klLa3 : runL [] lLa3 := by intro cs; kernel_rfl
theorem hlLa3 : (lit lLa3).Holds objs Tryz.prog := lit_holds (callable _ Tryz.func314 (by kernel_rfl) (by kernel_rfl)) all_nil klLa3
def lLa4 : Lit := ⟨174, [.ptr 0 0, .int .i64 (.lit 2), .int .i64 (.lit 0), .ptr 1 0, .func (.func 175) [.agg [.ptr 1 0, .int .u64 (.lit 1), .int .u64 (.lit 0)]] []], [.cells [.ptr 1 0, .int .i64 (.lit 14), .int .i64 (.lit 0), .int .i64 (.lit 0), .int .u64 (.lit 0), .int .u64 (.lit 0), .bool (.lit false), .int .i64 (.lit 0)] 150, .sp .u64 148 4096 []], .agg [.int .i64 (.lit 2), .int .i64 (.lit 0), .int .u64 (.lit 0), .int .u64 (.lit 1), .bool (.lit true)], [.cells [.ptr 1 0, .int .i64 (.lit 14), .int .i64 (.lit 2), .int .i64 (.lit 0), .int .u64 (.lit 0), .int .u64 (.lit 1), .bool (.lit true), .int .i64 (.lit 1)] 150, .sp .u64 148 4096 [(0, 1)]]⟩
set_option maxRecDepth 1000000 in
theorem klLa4 : runL [] lLa4 := by intro cs; kernel_rfl
theorem hlLa4 : (lit lLa4).Holds objs Tryz.prog := lit_holds (callable _ Tryz.func174 (by kernel_rfl) (by kernel_rfl)) all_nil klLa4
def lLa5 : Lit := ⟨95, [.ptr 0 0, .int .i64 (.lit 0), .int .u64 (.lit 1)], [.cells [.ptr 1 0, .int .i64 (.lit 14), .int .i64 (.lit 0), .int .i64 (.lit 0), .int .u64 (.lit 0), .int .u64 (.lit 0), .bool (.lit false), .int .i64 (.lit 0)] 150, .sp .u64 148 4096 []], .tuple [], [.cells [.ptr 1 0, .int .i64 (.lit 14), .int .i64 (.lit 2), .int .i64 (.lit 0), .int .u64 (.lit 0), .int .u64 (.lit 1), .bool (.lit true), .int .i64 (.lit 1)] 150, .sp .u64 148 4096 [(0, 1)]]⟩
set_option maxRecDepth 1000000 in
theorem klLa5 : runL [lLa4] lLa5 := by intro cs; kernel_rfl
theorem hlLa5 : (lit lLa5).Holds objs Tryz.prog := lit_holds (callable _ Tryz.func95 (by kernel_rfl) (by kernel_rfl)) (all_cons hlLa4 all_nil) klLa5
def lLa6 : Lit := ⟨314, [.agg [.int .i64 (.lit 1), .int .i64 (.lit 0)]], [], .tuple [.int .u64 (.lit 2), .int .i64 (.lit 0)], []⟩
set_option maxRecDepth 1000000 in
theorem klLa6 : runL [] lLa6 := by intro cs; kernel_rfl
theorem hlLa6 : (lit lLa6).Holds objs Tryz.prog := lit_holds (callable _ Tryz.func314 (by kernel_rfl) (by kernel_rfl)) all_nil klLa6
def lLa7 : Lit := ⟨174, [.ptr 0 0, .int .i64 (.lit 2), .int .i64 (.lit 1), .ptr 1 1, .func (.func 175) [.agg [.ptr 1 1, .int .u64 (.lit 2), .int .u64 (.lit 0)]] []], [.cells [.ptr 1 0, .int .i64 (.lit 14), .int .i64 (.lit 2), .int .i64 (.lit 0), .int .u64 (.lit 0), .int .u64 (.lit 1), .bool (.lit true), .int .i64 (.lit 1)] 150, .sp .u64 148 4096 [(0, 1)]], .agg [.int .i64 (.lit 2), .int .i64 (.lit 1), .int .u64 (.lit 0), .int .u64 (.lit 2), .bool (.lit true)], [.cells [.ptr 1 0, .int .i64 (.lit 14), .int .i64 (.lit 2), .int .i64 (.lit 1), .int .u64 (.lit 0), .int .u64 (.lit 2), .bool (.lit true), .int .i64 (.lit 2)] 150, .sp .u64 148 4096 [(0, 1), (1, 2)]]⟩
set_option maxRecDepth 1000000 in
theorem klLa7 : runL [] lLa7 := by intro cs; kernel_rfl
theorem hlLa7 : (lit lLa7).Holds objs Tryz.prog := lit_holds (callable _ Tryz.func174 (by kernel_rfl) (by kernel_rfl)) all_nil klLa7
def lLa8 : Lit := ⟨95, [.ptr 0 0, .int .i64 (.lit 1), .int .u64 (.lit 2)], [.cells [.ptr 1 0, .int .i64 (.lit 14), .int .i64 (.lit 2), .int .i64 (.lit 0), .int .u64 (.lit 0), .int .u64 (.lit 1), .bool (.lit true), .int .i64 (.lit 1)] 150, .sp .u64 148 4096 [(0, 1)]], .tuple [], [.cells [.ptr 1 0, .int .i64 (.lit 14), .int .i64 (.lit 2), .int .i64 (.lit 1), .int .u64 (.lit 0), .int .u64 (.lit 2), .bool (.lit true), .int .i64 (.lit 2)] 150, .sp .u64 148 4096 [(0, 1), (1, 2)]]⟩
set_option maxRecDepth 1000000 in
theorem klLa8 : runL [lLa7] lLa8 := by intro cs; kernel_rfl
theorem hlLa8 : (lit lLa8).Holds objs Tryz.prog := lit_holds (callable _ Tryz.func95 (by kernel_rfl) (by kernel_rfl)) (all_cons hlLa7 all_nil) klLa8
def lLa9 : Lit := ⟨314, [.agg [.int .i64 (.lit 2), .int .i64 (.lit 0)]], [], .tuple [.int .u64 (.lit 3), .int .i64 (.lit 0)], []⟩
set_option maxRecDepth 1000000 in
theorem klLa9 : runL [] lLa9 := by intro cs; kernel_rfl
theorem hlLa9 : (lit lLa9).Holds objs Tryz.prog := lit_holds (callable _ Tryz.func314 (by kernel_rfl) (by kernel_rfl)) all_nil klLa9
def lLa10 : Lit := ⟨174, [.ptr 0 0, .int .i64 (.lit 2), .int .i64 (.lit 2), .ptr 1 2, .func (.func 175) [.agg [.ptr 1 2, .int .u64 (.lit 3), .int .u64 (.lit 0)]] []], [.cells [.ptr 1 0, .int .i64 (.lit 14), .int .i64 (.lit 2), .int .i64 (.lit 1), .int .u64 (.lit 0), .int .u64 (.lit 2), .bool (.lit true), .int .i64 (.lit 2)] 150, .sp .u64 148 4096 [(0, 1), (1, 2)]], .agg [.int .i64 (.lit 2), .int .i64 (.lit 2), .int .u64 (.lit 0), .int .u64 (.lit 3), .bool (.lit true)], [.cells [.ptr 1 0, .int .i64 (.lit 14), .int .i64 (.lit 2), .int .i64 (.lit 2), .int .u64 (.lit 0), .int .u64 (.lit 3), .bool (.lit true), .int .i64 (.lit 3)] 150, .sp .u64 148 4096 [(0, 1), (1, 2), (2, 3)]]⟩
set_option maxRecDepth 1000000 in
theorem klLa10 : runL [] lLa10 := by intro cs; kernel_rfl
theorem hlLa10 : (lit lLa10).Holds objs Tryz.prog := lit_holds (callable _ Tryz.func174 (by kernel_rfl) (by kernel_rfl)) all_nil klLa10
def lLa11 : Lit := ⟨95, [.ptr 0 0, .int .i64 (.lit 2), .int .u64 (.lit 3)], [.cells [.ptr 1 0, .int .i64 (.lit 14), .int .i64 (.lit 2), .int .i64 (.lit 1), .int .u64 (.lit 0), .int .u64 (.lit 2), .bool (.lit true), .int .i64 (.lit 2)] 150, .sp .u64 148 4096 [(0, 1), (1, 2)]], .tuple [], [.cells [.ptr 1 0, .int .i64 (.lit 14), .int .i64 (.lit 2), .int .i64 (.lit 2), .int .u64 (.lit 0), .int .u64 (.lit 3), .bool (.lit true), .int .i64 (.lit 3)] 150, .sp .u64 148 4096 [(0, 1), (1, 2), (2, 3)]]⟩
set_option maxRecDepth 1000000 in
theorem klLa11 : runL [lLa10] lLa11 := by intro cs; kernel_rfl
theorem hlLa11 : (lit lLa11).Holds objs Tryz.prog := lit_holds (callable _ Tryz.func95 (by kernel_rfl) (by kernel_rfl)) (all_cons hlLa10 all_nil) klLa11
def lLa12 : Lit := ⟨314, [.agg [.int .i64 (.lit (-1)), .int .i64 (.lit 0)]], [], .tuple [.int .u64 (.lit 0), .int .i64 (.lit 0)], []⟩
set_option maxRecDepth 1000000 in
theorem klLa12 : runL [] lLa12 := by intro cs; kernel_rfl
theorem hlLa12 : (lit lLa12).Holds objs Tryz.prog := lit_holds (callable _ Tryz.func314 (by kernel_rfl) (by kernel_rfl)) all_nil klLa12
def lLa13 : Lit := ⟨174, [.ptr 0 0, .int .i64 (.lit 2), .int .i64 (.lit 3), .ptr 1 3, .func (.func 175) [.agg [.ptr 1 3, .int .u64 (.lit 0), .int .u64 (.lit 0)]] []], [.cells [.ptr 1 0, .int .i64 (.lit 14), .int .i64 (.lit 2), .int .i64 (.lit 2), .int .u64 (.lit 0), .int .u64 (.lit 3), .bool (.lit true), .int .i64 (.lit 3)] 150, .sp .u64 148 4096 [(0, 1), (1, 2), (2, 3)]], .agg [.int .i64 (.lit 2), .int .i64 (.lit 3), .int .u64 (.lit 0), .int .u64 (.lit 0), .bool (.lit true)], [.cells [.ptr 1 0, .int .i64 (.lit 14), .int .i64 (.lit 2), .int .i64 (.lit 3), .int .u64 (.lit 0), .int .u64 (.lit 0), .bool (.lit true), .int .i64 (.lit 4)] 150, .sp .u64 148 4096 [(0, 1), (1, 2), (2, 3), (3, 0)]]⟩
set_option maxRecDepth 1000000 in
theorem klLa13 : runL [] lLa13 := by intro cs; kernel_rfl
theorem hlLa13 : (lit lLa13).Holds objs Tryz.prog := lit_holds (callable _ Tryz.func174 (by kernel_rfl) (by kernel_rfl)) all_nil klLa13
def lLa14 : Lit := ⟨95, [.ptr 0 0, .int .i64 (.lit 3), .int .u64 (.lit 0)], [.cells [.ptr 1 0, .int .i64 (.lit 14), .int .i64 (.lit 2), .int .i64 (.lit 2), .int .u64 (.lit 0), .int .u64 (.lit 3), .bool (.lit true), .int .i64 (.lit 3)] 150, .sp .u64 148 4096 [(0, 1), (1, 2), (2, 3)]], .tuple [], [.cells [.ptr 1 0, .int .i64 (.lit 14), .int .i64 (.lit 2), .int .i64 (.lit 3), .int .u64 (.lit 0), .int .u64 (.lit 0), .bool (.lit true), .int .i64 (.lit 4)] 150, .sp .u64 148 4096 [(0, 1), (1, 2), (2, 3), (3, 0)]]⟩
set_option maxRecDepth 1000000 in
theorem klLa14 : runL [lLa13] lLa14 := by intro cs; kernel_rfl
theorem hlLa14 : (lit lLa14).Holds objs Tryz.prog := lit_holds (callable _ Tryz.func95 (by kernel_rfl) (by kernel_rfl)) (all_cons hlLa13 all_nil) klLa14
def lLa15 : Lit := ⟨252, [.agg [.int .i64 (.lit 0), .int .i64 (.lit 1), .int .i64 (.lit 3)], .ptr 0 0], [.cells [.ptr 1 0, .int .i64 (.lit 14), .int .i64 (.lit 0), .int .i64 (.lit 0), .int .u64 (.lit 0), .int .u64 (.lit 0), .bool (.lit false), .int .i64 (.lit 0)] 150, .sp .u64 148 4096 []], .tuple [], [.cells [.ptr 1 0, .int .i64 (.lit 14), .int .i64 (.lit 2), .int .i64 (.lit 3), .int .u64 (.lit 0), .int .u64 (.lit 0), .bool (.lit true), .int .i64 (.lit 4)] 150, .sp .u64 148 4096 [(0, 1), (1, 2), (2, 3), (3, 0)]]⟩
set_option maxRecDepth 1000000 in
theorem klLa15 : runL [lLa2, lLa3, lLa5, lLa6, lLa8, lLa9, lLa11, lLa12, lLa14] lLa15 := by intro cs; kernel_rfl
theorem hlLa15 : (lit lLa15).Holds objs Tryz.prog := lit_holds (callable _ Tryz.func252 (by kernel_rfl) (by kernel_rfl)) (all_cons hlLa2 (all_cons hlLa3 (all_cons hlLa5 (all_cons hlLa6 (all_cons hlLa8 (all_cons hlLa9 (all_cons hlLa11 (all_cons hlLa12 (all_cons hlLa14 all_nil))))))))) klLa15
def lLa16 : Lit := ⟨174, [.ptr 0 0, .int .i64 (.lit 2), .int .i64 (.lit 7), .ptr 1 7, .func (.func 175) [.agg [.ptr 1 7, .int .u64 (.lit 0), .int .u64 (.lit 0)]] []], [.cells [.ptr 1 0, .int .i64 (.lit 14), .int .i64 (.lit 2), .int .i64 (.lit 3), .int .u64 (.lit 0), .int .u64 (.lit 0), .bool (.lit true), .int .i64 (.lit 4)] 150, .sp .u64 148 4096 [(0, 1), (1, 2), (2, 3), (3, 0)]], .agg [.int .i64 (.lit 2), .int .i64 (.lit 7), .int .u64 (.lit 0), .int .u64 (.lit 0), .bool (.lit true)], [.cells [.ptr 1 0, .int .i64 (.lit 14), .int .i64 (.lit 2), .int .i64 (.lit 7), .int .u64 (.lit 0), .int .u64 (.lit 0), .bool (.lit true), .int .i64 (.lit 5)] 150, .sp .u64 148 4096 [(0, 1), (1, 2), (2, 3), (3, 0), (7, 0)]]⟩
set_option maxRecDepth 1000000 in
theorem klLa16 : runL [] lLa16 := by intro cs; kernel_rfl
theorem hlLa16 : (lit lLa16).Holds objs Tryz.prog := lit_holds (callable _ Tryz.func174 (by kernel_rfl) (by kernel_rfl)) all_nil klLa16
def lLa17 : Lit := ⟨95, [.ptr 0 0, .int .i64 (.lit 7), .int .u64 (.lit 0)], [.cells [.ptr 1 0, .int .i64 (.lit 14), .int .i64 (.lit 2), .int .i64 (.lit 3), .int .u64 (.lit 0), .int .u64 (.lit 0), .bool (.lit true), .int .i64 (.lit 4)] 150, .sp .u64 148 4096 [(0, 1), (1, 2), (2, 3), (3, 0)]], .tuple [], [.cells [.ptr 1 0, .int .i64 (.lit 14), .int .i64 (.lit 2), .int .i64 (.lit 7), .int .u64 (.lit 0), .int .u64 (.lit 0), .bool (.lit true), .int .i64 (.lit 5)] 150, .sp .u64 148 4096 [(0, 1), (1, 2), (2, 3), (3, 0), (7, 0)]]⟩
set_option maxRecDepth 1000000 in
theorem klLa17 : runL [lLa16] lLa17 := by intro cs; kernel_rfl
theorem hlLa17 : (lit lLa17).Holds objs Tryz.prog := lit_holds (callable _ Tryz.func95 (by kernel_rfl) (by kernel_rfl)) (all_cons hlLa16 all_nil) klLa17
def lLa18 : Lit := ⟨174, [.ptr 0 0, .int .i64 (.lit 2), .int .i64 (.lit 4), .ptr 1 4, .func (.func 175) [.agg [.ptr 1 4, .int .u64 (.lit 1), .int .u64 (.lit 0)]] []], [.cells [.ptr 1 0, .int .i64 (.lit 14), .int .i64 (.lit 2), .int .i64 (.lit 7), .int .u64 (.lit 0), .int .u64 (.lit 0), .bool (.lit true), .int .i64 (.lit 5)] 150, .sp .u64 148 4096 [(0, 1), (1, 2), (2, 3), (3, 0), (7, 0)]], .agg [.int .i64 (.lit 2), .int .i64 (.lit 4), .int .u64 (.lit 0), .int .u64 (.lit 1), .bool (.lit true)], [.cells [.ptr 1 0, .int .i64 (.lit 14), .int .i64 (.lit 2), .int .i64 (.lit 4), .int .u64 (.lit 0), .int .u64 (.lit 1), .bool (.lit true), .int .i64 (.lit 6)] 150, .sp .u64 148 4096 [(0, 1), (1, 2), (2, 3), (3, 0), (4, 1), (7, 0)]]⟩
set_option maxRecDepth 1000000 in
theorem klLa18 : runL [] lLa18 := by intro cs; kernel_rfl
theorem hlLa18 : (lit lLa18).Holds objs Tryz.prog := lit_holds (callable _ Tryz.func174 (by kernel_rfl) (by kernel_rfl)) all_nil klLa18
def lLa19 : Lit := ⟨95, [.ptr 0 0, .int .i64 (.lit 4), .int .u64 (.lit 1)], [.cells [.ptr 1 0, .int .i64 (.lit 14), .int .i64 (.lit 2), .int .i64 (.lit 7), .int .u64 (.lit 0), .int .u64 (.lit 0), .bool (.lit true), .int .i64 (.lit 5)] 150, .sp .u64 148 4096 [(0, 1), (1, 2), (2, 3), (3, 0), (7, 0)]], .tuple [], [.cells [.ptr 1 0, .int .i64 (.lit 14), .int .i64 (.lit 2), .int .i64 (.lit 4), .int .u64 (.lit 0), .int .u64 (.lit 1), .bool (.lit true), .int .i64 (.lit 6)] 150, .sp .u64 148 4096 [(0, 1), (1, 2), (2, 3), (3, 0), (4, 1), (7, 0)]]⟩
set_option maxRecDepth 1000000 in
theorem klLa19 : runL [lLa18] lLa19 := by intro cs; kernel_rfl
theorem hlLa19 : (lit lLa19).Holds objs Tryz.prog := lit_holds (callable _ Tryz.func95 (by kernel_rfl) (by kernel_rfl)) (all_cons hlLa18 all_nil) klLa19
def lLa20 : Lit := ⟨174, [.ptr 0 0, .int .i64 (.lit 2), .int .i64 (.lit 5), .ptr 1 5, .func (.func 175) [.agg [.ptr 1 5, .int .u64 (.lit 1), .int .u64 (.lit 0)]] []], [.cells [.ptr 1 0, .int .i64 (.lit 14), .int .i64 (.lit 2), .int .i64 (.lit 4), .int .u64 (.lit 0), .int .u64 (.lit 1), .bool (.lit true), .int .i64 (.lit 6)] 150, .sp .u64 148 4096 [(0, 1), (1, 2), (2, 3), (3, 0), (4, 1), (7, 0)]], .agg [.int .i64 (.lit 2), .int .i64 (.lit 5), .int .u64 (.lit 0), .int .u64 (.lit 1), .bool (.lit true)], [.cells [.ptr 1 0, .int .i64 (.lit 14), .int .i64 (.lit 2), .int .i64 (.lit 5), .int .u64 (.lit 0), .int .u64 (.lit 1), .bool (.lit true), .int .i64 (.lit 7)] 150, .sp .u64 148 4096 [(0, 1), (1, 2), (2, 3), (3, 0), (4, 1), (5, 1), (7, 0)]]⟩
set_option maxRecDepth 1000000 in
theorem klLa20 : runL [] lLa20 := by intro cs; kernel_rfl
theorem hlLa20 : (lit lLa20).Holds objs Tryz.prog := lit_holds (callable _ Tryz.func174 (by kernel_rfl) (by kernel_rfl)) all_nil klLa20
def lLa21 : Lit := ⟨95, [.ptr 0 0, .int .i64 (.lit 5), .int .u64 (.lit 1)], [.cells [.ptr 1 0, .int .i64 (.lit 14), .int .i64 (.lit 2), .int .i64 (.lit 4), .int .u64 (.lit 0), .int .u64 (.lit 1), .bool (.lit true), .int .i64 (.lit 6)] 150, .sp .u64 148 4096 [(0, 1), (1, 2), (2, 3), (3, 0), (4, 1), (7, 0)]], .tuple [], [.cells [.ptr 1 0, .int .i64 (.lit 14), .int .i64 (.lit 2), .int .i64 (.lit 5), .int .u64 (.lit 0), .int .u64 (.lit 1), .bool (.lit true), .int .i64 (.lit 7)] 150, .sp .u64 148 4096 [(0, 1), (1, 2), (2, 3), (3, 0), (4, 1), (5, 1), (7, 0)]]⟩
set_option maxRecDepth 1000000 in
theorem klLa21 : runL [lLa20] lLa21 := by intro cs; kernel_rfl
theorem hlLa21 : (lit lLa21).Holds objs Tryz.prog := lit_holds (callable _ Tryz.func95 (by kernel_rfl) (by kernel_rfl)) (all_cons hlLa20 all_nil) klLa21
def lLa22 : Lit := ⟨174, [.ptr 0 0, .int .i64 (.lit 2), .int .i64 (.lit 6), .ptr 1 6, .func (.func 175) [.agg [.ptr 1 6, .int .u64 (.lit 1), .int .u64 (.lit 0)]] []], [.cells [.ptr 1 0, .int .i64 (.lit 14), .int .i64 (.lit 2), .int .i64 (.lit 5), .int .u64 (.lit 0), .int .u64 (.lit 1), .bool (.lit true), .int .i64 (.lit 7)] 150, .sp .u64 148 4096 [(0, 1), (1, 2), (2, 3), (3, 0), (4, 1), (5, 1), (7, 0)]], .agg [.int .i64 (.lit 2), .int .i64 (.lit 6), .int .u64 (.lit 0), .int .u64 (.lit 1), .bool (.lit true)], [.cells [.ptr 1 0, .int .i64 (.lit 14), .int .i64 (.lit 2), .int .i64 (.lit 6), .int .u64 (.lit 0), .int .u64 (.lit 1), .bool (.lit true), .int .i64 (.lit 8)] 150, .sp .u64 148 4096 [(0, 1), (1, 2), (2, 3), (3, 0), (4, 1), (5, 1), (6, 1), (7, 0)]]⟩
set_option maxRecDepth 1000000 in
theorem klLa22 : runL [] lLa22 := by intro cs; kernel_rfl
theorem hlLa22 : (lit lLa22).Holds objs Tryz.prog := lit_holds (callable _ Tryz.func174 (by kernel_rfl) (by kernel_rfl)) all_nil klLa22
def lLa23 : Lit := ⟨95, [.ptr 0 0, .int .i64 (.lit 6), .int .u64 (.lit 1)], [.cells [.ptr 1 0, .int .i64 (.lit 14), .int .i64 (.lit 2), .int .i64 (.lit 5), .int .u64 (.lit 0), .int .u64 (.lit 1), .bool (.lit true), .int .i64 (.lit 7)] 150, .sp .u64 148 4096 [(0, 1), (1, 2), (2, 3), (3, 0), (4, 1), (5, 1), (7, 0)]], .tuple [], [.cells [.ptr 1 0, .int .i64 (.lit 14), .int .i64 (.lit 2), .int .i64 (.lit 6), .int .u64 (.lit 0), .int .u64 (.lit 1), .bool (.lit true), .int .i64 (.lit 8)] 150, .sp .u64 148 4096 [(0, 1), (1, 2), (2, 3), (3, 0), (4, 1), (5, 1), (6, 1), (7, 0)]]⟩
set_option maxRecDepth 1000000 in
theorem klLa23 : runL [lLa22] lLa23 := by intro cs; kernel_rfl
theorem hlLa23 : (lit lLa23).Holds objs Tryz.prog := lit_holds (callable _ Tryz.func95 (by kernel_rfl) (by kernel_rfl)) (all_cons hlLa22 all_nil) klLa23
def lLa24 : Lit := ⟨169, [.agg [.int .i64 (.lit 0), .int .i64 (.lit 1), .int .i64 (.lit 3), .int .i64 (.lit 4), .int .i64 (.lit 7), .int .i64 (.lit 9)], .ptr 0 0], [.cells [.ptr 1 0, .int .i64 (.lit 14), .int .i64 (.lit 0), .int .i64 (.lit 0), .int .u64 (.lit 0), .int .u64 (.lit 0), .bool (.lit false), .int .i64 (.lit 0)] 150, .sp .u64 148 4096 []], .tuple [], [.cells [.ptr 1 0, .int .i64 (.lit 14), .int .i64 (.lit 2), .int .i64 (.lit 6), .int .u64 (.lit 0), .int .u64 (.lit 1), .bool (.lit true), .int .i64 (.lit 8)] 150, .sp .u64 148 4096 [(0, 1), (1, 2), (2, 3), (3, 0), (4, 1), (5, 1), (6, 1), (7, 0)]]⟩
set_option maxRecDepth 1000000 in
theorem klLa24 : runL [lLa1, lLa15, lLa17, lLa19, lLa21, lLa23] lLa24 := by intro cs; kernel_rfl
theorem hlLa24 : (lit lLa24).Holds objs Tryz.prog := lit_holds (callable _ Tryz.func169 (by kernel_rfl) (by kernel_rfl)) (all_cons hlLa1 (all_cons hlLa15 (all_cons hlLa17 (all_cons hlLa19 (all_cons hlLa21 (all_cons hlLa23 all_nil)))))) klLa24
def lLa25 : Lit := ⟨174, [.ptr 0 0, .int .i64 (.lit 2), .int .i64 (.lit 8), .ptr 1 8, .func (.func 175) [.agg [.ptr 1 8, .int .u64 (.lit 0), .int .u64 (.lit 0)]] []], [.cells [.ptr 1 0, .int .i64 (.lit 14), .int .i64 (.lit 2), .int .i64 (.lit 6), .int .u64 (.lit 0), .int .u64 (.lit 1), .bool (.lit true), .int .i64 (.lit 8)] 150, .sp .u64 148 4096 [(0, 1), (1, 2), (2, 3), (3, 0), (4, 1), (5, 1), (6, 1), (7, 0)]], .agg [.int .i64 (.lit 2), .int .i64 (.lit 8), .int .u64 (.lit 0), .int .u64 (.lit 0), .bool (.lit true)], [.cells [.ptr 1 0, .int .i64 (.lit 14), .int .i64 (.lit 2), .int .i64 (.lit 8), .int .u64 (.lit 0), .int .u64 (.lit 0), .bool (.lit true), .int .i64 (.lit 9)] 150, .sp .u64 148 4096 [(0, 1), (1, 2), (2, 3), (3, 0), (4, 1), (5, 1), (6, 1), (7, 0), (8, 0)]]⟩
set_option maxRecDepth 1000000 in
theorem klLa25 : runL [] lLa25 := by intro cs; kernel_rfl
theorem hlLa25 : (lit lLa25).Holds objs Tryz.prog := lit_holds (callable _ Tryz.func174 (by kernel_rfl) (by kernel_rfl)) all_nil klLa25
def lLa26 : Lit := ⟨95, [.ptr 0 0, .int .i64 (.lit 8), .int .u64 (.lit 0)], [.cells [.ptr 1 0, .int .i64 (.lit 14), .int .i64 (.lit 2), .int .i64 (.lit 6), .int .u64 (.lit 0), .int .u64 (.lit 1), .bool (.lit true), .int .i64 (.lit 8)] 150, .sp .u64 148 4096 [(0, 1), (1, 2), (2, 3), (3, 0), (4, 1), (5, 1), (6, 1), (7, 0)]], .tuple [], [.cells [.ptr 1 0, .int .i64 (.lit 14), .int .i64 (.lit 2), .int .i64 (.lit 8), .int .u64 (.lit 0), .int .u64 (.lit 0), .bool (.lit true), .int .i64 (.lit 9)] 150, .sp .u64 148 4096 [(0, 1), (1, 2), (2, 3), (3, 0), (4, 1), (5, 1), (6, 1), (7, 0), (8, 0)]]⟩
set_option maxRecDepth 1000000 in
theorem klLa26 : runL [lLa25] lLa26 := by intro cs; kernel_rfl
theorem hlLa26 : (lit lLa26).Holds objs Tryz.prog := lit_holds (callable _ Tryz.func95 (by kernel_rfl) (by kernel_rfl)) (all_cons hlLa25 all_nil) klLa26
def lLa27 : Lit := ⟨174, [.ptr 0 0, .int .i64 (.lit 2), .int .i64 (.lit 9), .ptr 1 9, .func (.func 175) [.agg [.ptr 1 9, .int .u64 (.lit 0), .int .u64 (.lit 0)]] []], [.cells [.ptr 1 0, .int .i64 (.lit 14), .int .i64 (.lit 2), .int .i64 (.lit 8), .int .u64 (.lit 0), .int .u64 (.lit 0), .bool (.lit true), .int .i64 (.lit 9)] 150, .sp .u64 148 4096 [(0, 1), (1, 2), (2, 3), (3, 0), (4, 1), (5, 1), (6, 1), (7, 0), (8, 0)]], .agg [.int .i64 (.lit 2), .int .i64 (.lit 9), .int .u64 (.lit 0), .int .u64 (.lit 0), .bool (.lit true)], [.cells [.ptr 1 0, .int .i64 (.lit 14), .int .i64 (.lit 2), .int .i64 (.lit 9), .int .u64 (.lit 0), .int .u64 (.lit 0), .bool (.lit true), .int .i64 (.lit 10)] 150, .sp .u64 148 4096 [(0, 1), (1, 2), (2, 3), (3, 0), (4, 1), (5, 1), (6, 1), (7, 0), (8, 0), (9, 0)]]⟩
set_option maxRecDepth 1000000 in
theorem klLa27 : runL [] lLa27 := by intro cs; kernel_rfl
theorem hlLa27 : (lit lLa27).Holds objs Tryz.prog := lit_holds (callable _ Tryz.func174 (by kernel_rfl) (by kernel_rfl)) all_nil klLa27
def lLa28 : Lit := ⟨95, [.ptr 0 0, .int .i64 (.lit 9), .int .u64 (.lit 0)], [.cells [.ptr 1 0, .int .i64 (.lit 14), .int .i64 (.lit 2), .int .i64 (.lit 8), .int .u64 (.lit 0), .int .u64 (.lit 0), .bool (.lit true), .int .i64 (.lit 9)] 150, .sp .u64 148 4096 [(0, 1), (1, 2), (2, 3), (3, 0), (4, 1), (5, 1), (6, 1), (7, 0), (8, 0)]], .tuple [], [.cells [.ptr 1 0, .int .i64 (.lit 14), .int .i64 (.lit 2), .int .i64 (.lit 9), .int .u64 (.lit 0), .int .u64 (.lit 0), .bool (.lit true), .int .i64 (.lit 10)] 150, .sp .u64 148 4096 [(0, 1), (1, 2), (2, 3), (3, 0), (4, 1), (5, 1), (6, 1), (7, 0), (8, 0), (9, 0)]]⟩
set_option maxRecDepth 1000000 in
theorem klLa28 : runL [lLa27] lLa28 := by intro cs; kernel_rfl
theorem hlLa28 : (lit lLa28).Holds objs Tryz.prog := lit_holds (callable _ Tryz.func95 (by kernel_rfl) (by kernel_rfl)) (all_cons hlLa27 all_nil) klLa28
def lLa29 : Lit := ⟨174, [.ptr 0 0, .int .i64 (.lit 2), .int .i64 (.lit 10), .ptr 1 10, .func (.func 175) [.agg [.ptr 1 10, .int .u64 (.lit 0), .int .u64 (.lit 0)]] []], [.cells [.ptr 1 0, .int .i64 (.lit 14), .int .i64 (.lit 2), .int .i64 (.lit 9), .int .u64 (.lit 0), .int .u64 (.lit 0), .bool (.lit true), .int .i64 (.lit 10)] 150, .sp .u64 148 4096 [(0, 1), (1, 2), (2, 3), (3, 0), (4, 1), (5, 1), (6, 1), (7, 0), (8, 0), (9, 0)]], .agg [.int .i64 (.lit 2), .int .i64 (.lit 10), .int .u64 (.lit 0), .int .u64 (.lit 0), .bool (.lit true)], [.cells [.ptr 1 0, .int .i64 (.lit 14), .int .i64 (.lit 2), .int .i64 (.lit 10), .int .u64 (.lit 0), .int .u64 (.lit 0), .bool (.lit true), .int .i64 (.lit 11)] 150, .sp .u64 148 4096 [(0, 1), (1, 2), (2, 3), (3, 0), (4, 1), (5, 1), (6, 1), (7, 0), (8, 0), (9, 0), (10, 0)]]⟩
set_option maxRecDepth 1000000 in
theorem klLa29 : runL [] lLa29 := by intro cs; kernel_rfl
theorem hlLa29 : (lit lLa29).Holds objs Tryz.prog := lit_holds (callable _ Tryz.func174 (by kernel_rfl) (by kernel_rfl)) all_nil klLa29
def lLa30 : Lit := ⟨95, [.ptr 0 0, .int .i64 (.lit 10), .int .u64 (.lit 0)], [.cells [.ptr 1 0, .int .i64 (.lit 14), .int .i64 (.lit 2), .int .i64 (.lit 9), .int .u64 (.lit 0), .int .u64 (.lit 0), .bool (.lit true), .int .i64 (.lit 10)] 150, .sp .u64 148 4096 [(0, 1), (1, 2), (2, 3), (3, 0), (4, 1), (5, 1), (6, 1), (7, 0), (8, 0), (9, 0)]], .tuple [], [.cells [.ptr 1 0, .int .i64 (.lit 14), .int .i64 (.lit 2), .int .i64 (.lit 10), .int .u64 (.lit 0), .int .u64 (.lit 0), .bool (.lit true), .int .i64 (.lit 11)] 150, .sp .u64 148 4096 [(0, 1), (1, 2), (2, 3), (3, 0), (4, 1), (5, 1), (6, 1), (7, 0), (8, 0), (9, 0), (10, 0)]]⟩
set_option maxRecDepth 1000000 in
theorem klLa30 : runL [lLa29] lLa30 := by intro cs; kernel_rfl
theorem hlLa30 : (lit lLa30).Holds objs Tryz.prog := lit_holds (callable _ Tryz.func95 (by kernel_rfl) (by kernel_rfl)) (all_cons hlLa29 all_nil) klLa30
def lLa31 : Lit := ⟨170, [.agg [.int .i64 (.lit 8), .int .i64 (.lit 9), .int .i64 (.lit 2)], .ptr 0 0], [.cells [.ptr 1 0, .int .i64 (.lit 14), .int .i64 (.lit 2), .int .i64 (.lit 6), .int .u64 (.lit 0), .int .u64 (.lit 1), .bool (.lit true), .int .i64 (.lit 8)] 150, .sp .u64 148 4096 [(0, 1), (1, 2), (2, 3), (3, 0), (4, 1), (5, 1), (6, 1), (7, 0)]], .tuple [], [.cells [.ptr 1 0, .int .i64 (.lit 14), .int .i64 (.lit 2), .int .i64 (.lit 10), .int .u64 (.lit 0), .int .u64 (.lit 0), .bool (.lit true), .int .i64 (.lit 11)] 150, .sp .u64 148 4096 [(0, 1), (1, 2), (2, 3), (3, 0), (4, 1), (5, 1), (6, 1), (7, 0), (8, 0), (9, 0), (10, 0)]]⟩
set_option maxRecDepth 1000000 in
theorem klLa31 : runL [lLa26, lLa28, lLa30] lLa31 := by intro cs; kernel_rfl
theorem hlLa31 : (lit lLa31).Holds objs Tryz.prog := lit_holds (callable _ Tryz.func170 (by kernel_rfl) (by kernel_rfl)) (all_cons hlLa26 (all_cons hlLa28 (all_cons hlLa30 all_nil))) klLa31
def lLa32 : Lit := ⟨174, [.ptr 0 0, .int .i64 (.lit 2), .int .i64 (.lit 11), .ptr 1 11, .func (.func 175) [.agg [.ptr 1 11, .int .u64 (.lit 0), .int .u64 (.lit 0)]] []], [.cells [.ptr 1 0, .int .i64 (.lit 14), .int .i64 (.lit 2), .int .i64 (.lit 10), .int .u64 (.lit 0), .int .u64 (.lit 0), .bool (.lit true), .int .i64 (.lit 11)] 150, .sp .u64 148 4096 [(0, 1), (1, 2), (2, 3), (3, 0), (4, 1), (5, 1), (6, 1), (7, 0), (8, 0), (9, 0), (10, 0)]], .agg [.int .i64 (.lit 2), .int .i64 (.lit 11), .int .u64 (.lit 0), .int .u64 (.lit 0), .bool (.lit true)], [.cells [.ptr 1 0, .int .i64 (.lit 14), .int .i64 (.lit 2), .int .i64 (.lit 11), .int .u64 (.lit 0), .int .u64 (.lit 0), .bool (.lit true), .int .i64 (.lit 12)] 150, .sp .u64 148 4096 [(0, 1), (1, 2), (2, 3), (3, 0), (4, 1), (5, 1), (6, 1), (7, 0), (8, 0), (9, 0), (10, 0), (11, 0)]]⟩
set_option maxRecDepth 1000000 in
theorem klLa32 : runL [] lLa32 := by intro cs; kernel_rfl
theorem hlLa32 : (lit lLa32).Holds objs Tryz.prog := lit_holds (callable _ Tryz.func174 (by kernel_rfl) (by kernel_rfl)) all_nil klLa32
def lLa33 : Lit := ⟨95, [.ptr 0 0, .int .i64 (.lit 11), .int .u64 (.lit 0)], [.cells [.ptr 1 0, .int .i64 (.lit 14), .int .i64 (.lit 2), .int .i64 (.lit 10), .int .u64 (.lit 0), .int .u64 (.lit 0), .bool (.lit true), .int .i64 (.lit 11)] 150, .sp .u64 148 4096 [(0, 1), (1, 2), (2, 3), (3, 0), (4, 1), (5, 1), (6, 1), (7, 0), (8, 0), (9, 0), (10, 0)]], .tuple [], [.cells [.ptr 1 0, .int .i64 (.lit 14), .int .i64 (.lit 2), .int .i64 (.lit 11), .int .u64 (.lit 0), .int .u64 (.lit 0), .bool (.lit true), .int .i64 (.lit 12)] 150, .sp .u64 148 4096 [(0, 1), (1, 2), (2, 3), (3, 0), (4, 1), (5, 1), (6, 1), (7, 0), (8, 0), (9, 0), (10, 0), (11, 0)]]⟩
set_option maxRecDepth 1000000 in
theorem klLa33 : runL [lLa32] lLa33 := by intro cs; kernel_rfl
theorem hlLa33 : (lit lLa33).Holds objs Tryz.prog := lit_holds (callable _ Tryz.func95 (by kernel_rfl) (by kernel_rfl)) (all_cons hlLa32 all_nil) klLa33
def lLa34 : Lit := ⟨174, [.ptr 0 0, .int .i64 (.lit 2), .int .i64 (.lit 12), .ptr 1 12, .func (.func 175) [.agg [.ptr 1 12, .int .u64 (.lit 0), .int .u64 (.lit 0)]] []], [.cells [.ptr 1 0, .int .i64 (.lit 14), .int .i64 (.lit 2), .int .i64 (.lit 11), .int .u64 (.lit 0), .int .u64 (.lit 0), .bool (.lit true), .int .i64 (.lit 12)] 150, .sp .u64 148 4096 [(0, 1), (1, 2), (2, 3), (3, 0), (4, 1), (5, 1), (6, 1), (7, 0), (8, 0), (9, 0), (10, 0), (11, 0)]], .agg [.int .i64 (.lit 2), .int .i64 (.lit 12), .int .u64 (.lit 0), .int .u64 (.lit 0), .bool (.lit true)], [.cells [.ptr 1 0, .int .i64 (.lit 14), .int .i64 (.lit 2), .int .i64 (.lit 12), .int .u64 (.lit 0), .int .u64 (.lit 0), .bool (.lit true), .int .i64 (.lit 13)] 150, .sp .u64 148 4096 [(0, 1), (1, 2), (2, 3), (3, 0), (4, 1), (5, 1), (6, 1), (7, 0), (8, 0), (9, 0), (10, 0), (11, 0), (12, 0)]]⟩
set_option maxRecDepth 1000000 in
theorem klLa34 : runL [] lLa34 := by intro cs; kernel_rfl
theorem hlLa34 : (lit lLa34).Holds objs Tryz.prog := lit_holds (callable _ Tryz.func174 (by kernel_rfl) (by kernel_rfl)) all_nil klLa34
def lLa35 : Lit := ⟨95, [.ptr 0 0, .int .i64 (.lit 12), .int .u64 (.lit 0)], [.cells [.ptr 1 0, .int .i64 (.lit 14), .int .i64 (.lit 2), .int .i64 (.lit 11), .int .u64 (.lit 0), .int .u64 (.lit 0), .bool (.lit true), .int .i64 (.lit 12)] 150, .sp .u64 148 4096 [(0, 1), (1, 2), (2, 3), (3, 0), (4, 1), (5, 1), (6, 1), (7, 0), (8, 0), (9, 0), (10, 0), (11, 0)]], .tuple [], [.cells [.ptr 1 0, .int .i64 (.lit 14), .int .i64 (.lit 2), .int .i64 (.lit 12), .int .u64 (.lit 0), .int .u64 (.lit 0), .bool (.lit true), .int .i64 (.lit 13)] 150, .sp .u64 148 4096 [(0, 1), (1, 2), (2, 3), (3, 0), (4, 1), (5, 1), (6, 1), (7, 0), (8, 0), (9, 0), (10, 0), (11, 0), (12, 0)]]⟩
set_option maxRecDepth 1000000 in
theorem klLa35 : runL [lLa34] lLa35 := by intro cs; kernel_rfl
theorem hlLa35 : (lit lLa35).Holds objs Tryz.prog := lit_holds (callable _ Tryz.func95 (by kernel_rfl) (by kernel_rfl)) (all_cons hlLa34 all_nil) klLa35
def lLa36 : Lit := ⟨174, [.ptr 0 0, .int .i64 (.lit 2), .int .i64 (.lit 13), .ptr 1 13, .func (.func 175) [.agg [.ptr 1 13, .int .u64 (.lit 0), .int .u64 (.lit 0)]] []], [.cells [.ptr 1 0, .int .i64 (.lit 14), .int .i64 (.lit 2), .int .i64 (.lit 12), .int .u64 (.lit 0), .int .u64 (.lit 0), .bool (.lit true), .int .i64 (.lit 13)] 150, .sp .u64 148 4096 [(0, 1), (1, 2), (2, 3), (3, 0), (4, 1), (5, 1), (6, 1), (7, 0), (8, 0), (9, 0), (10, 0), (11, 0), (12, 0)]], .agg [.int .i64 (.lit 2), .int .i64 (.lit 13), .int .u64 (.lit 0), .int .u64 (.lit 0), .bool (.lit true)], [.cells [.ptr 1 0, .int .i64 (.lit 14), .int .i64 (.lit 2), .int .i64 (.lit 13), .int .u64 (.lit 0), .int .u64 (.lit 0), .bool (.lit true), .int .i64 (.lit 14)] 150, .sp .u64 148 4096 [(0, 1), (1, 2), (2, 3), (3, 0), (4, 1), (5, 1), (6, 1), (7, 0), (8, 0), (9, 0), (10, 0), (11, 0), (12, 0), (13, 0)]]⟩
set_option maxRecDepth 1000000 in
theorem klLa36 : runL [] lLa36 := by intro cs; kernel_rfl
theorem hlLa36 : (lit lLa36).Holds objs Tryz.prog := lit_holds (callable _ Tryz.func174 (by kernel_rfl) (by kernel_rfl)) all_nil klLa36
def lLa37 : Lit := ⟨95, [.ptr 0 0, .int .i64 (.lit 13), .int .u64 (.lit 0)], [.cells [.ptr 1 0, .int .i64 (.lit 14), .int .i64 (.lit 2), .int .i64 (.lit 12), .int .u64 (.lit 0), .int .u64 (.lit 0), .bool (.lit true), .int .i64 (.lit 13)] 150, .sp .u64 148 4096 [(0, 1), (1, 2), (2, 3), (3, 0), (4, 1), (5, 1), (6, 1), (7, 0), (8, 0), (9, 0), (10, 0), (11, 0), (12, 0)]], .tuple [], [.cells [.ptr 1 0, .int .i64 (.lit 14), .int .i64 (.lit 2), .int .i64 (.lit 13), .int .u64 (.lit 0), .int .u64 (.lit 0), .bool (.lit true), .int .i64 (.lit 14)] 150, .sp .u64 148 4096 [(0, 1), (1, 2), (2, 3), (3, 0), (4, 1), (5, 1), (6, 1), (7, 0), (8, 0), (9, 0), (10, 0), (11, 0), (12, 0), (13, 0)]]⟩
set_option maxRecDepth 1000000 in
theorem klLa37 : runL [lLa36] lLa37 := by intro cs; kernel_rfl
theorem hlLa37 : (lit lLa37).Holds objs Tryz.prog := lit_holds (callable _ Tryz.func95 (by kernel_rfl) (by kernel_rfl)) (all_cons hlLa36 all_nil) klLa37
def lLa38 : Lit := ⟨93, [.agg [.int .i64 (.lit 0), .int .i64 (.lit 1), .int .i64 (.lit 3), .int .i64 (.lit 4), .int .i64 (.lit 7), .int .i64 (.lit 9), .int .i64 (.lit 8), .int .i64 (.lit 9), .int .i64 (.lit 2), .int .i64 (.lit 11)], .ptr 0 0], [.cells [.ptr 1 0, .int .i64 (.lit 14), .int .i64 (.lit 0), .int .i64 (.lit 0), .int .u64 (.lit 0), .int .u64 (.lit 0), .bool (.lit false), .int .i64 (.lit 0)] 150, .sp .u64 148 4096 []], .tuple [], [.cells [.ptr 1 0, .int .i64 (.lit 14), .int .i64 (.lit 2), .int .i64 (.lit 13), .int .u64 (.lit 0), .int .u64 (.lit 0), .bool (.lit true), .int .i64 (.lit 14)] 150, .sp .u64 148 4096 [(0, 1), (1, 2), (2, 3), (3, 0), (4, 1), (5, 1), (6, 1), (7, 0), (8, 0), (9, 0), (10, 0), (11, 0), (12, 0), (13, 0)]]⟩
set_option maxRecDepth 1000000 in
theorem klLa38 : runL [lLa24, lLa31, lLa33, lLa35, lLa37] lLa38 := by intro cs; kernel_rfl
theorem hlLa38 : (lit lLa38).Holds objs Tryz.prog := lit_holds (callable _ Tryz.func93 (by kernel_rfl) (by kernel_rfl)) (all_cons hlLa24 (all_cons hlLa31 (all_cons hlLa33 (all_cons hlLa35 (all_cons hlLa37 all_nil))))) klLa38
def lLa39 : Lit := ⟨153, [.agg [.int .i64 (.lit 0), .int .i64 (.lit 1), .int .i64 (.lit 3), .int .i64 (.lit 4), .int .i64 (.lit 7), .int .i64 (.lit 9)]], [], .ptr 0 0, [.cells [.ptr 1 0, .int .i64 (.lit 0), .int .i64 (.lit 1), .int .i64 (.lit 3), .int .i64 (.lit 4), .int .i64 (.lit 7), .int .i64 (.lit 9), .bool (.lit true), .func (.func 248) [] [], .int .i64 (.lit 0), .int .u64 (.lit 0), .int .i64 (.lit 0)] 313, .cells [.int .i64 (.lit 0), .int .i64 (.lit 1), .int .i64 (.lit 3), .int .u64 (.lit 0), .int .i64 (.lit 0), .int .i64 (.lit 0), .bool (.lit true), .bool (.lit false), .int .i64 (.lit 0), .func (.func 295) [] []] 352]⟩
set_option maxRecDepth 1000000 in
theorem klLa39 : runL [] lLa39 := by intro cs; kernel_rfl
theorem hlLa39 : (lit lLa39).Holds objs Tryz.prog := lit_holds (callable _ Tryz.func153 (by kernel_rfl) (by kernel_rfl)) all_nil klLa39
end Go.Proofs.YtdldcofddfkkbaaGreat
