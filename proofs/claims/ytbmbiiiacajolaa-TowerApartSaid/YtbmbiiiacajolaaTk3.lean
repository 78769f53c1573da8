/- Calls of a run whose numbers are all known, as a program of ours printed them. -/
import Derived.Test.YtbmbiiiacajolaaLt
import Derived.Test.YtbmbiiiacajolaaTk1
import Derived.Test.YtbmbiiiacajolaaTk2
namespace Go.Proofs.Ytbmbiiiacajolaa
set_option linter.unusedVariables false
set_option linter.unusedSimpArgs false
set_option linter.unusedSectionVars false
open Go Go.RowKit

def lTk80 : Lit := ⟨85, [.ptr 0 0, .int .i64 (.lit 6)], [.cells [.ptr 1 0, .int .i64 (.lit 34), .int .i64 (.lit 2), .int .i64 (.lit 5), .int .u64 (.lit 0), .int .u64 (.lit 1), .bool (.lit true), .int .i64 (.lit 7)] 120, .sp .u64 116 4096 [(0, 1), (1, 2), (2, 3), (3, 0), (4, 1), (5, 1), (7, 0)]], .ptr 1 6, [.cells [.ptr 1 0, .int .i64 (.lit 34), .int .i64 (.lit 2), .int .i64 (.lit 5), .int .u64 (.lit 0), .int .u64 (.lit 1), .bool (.lit true), .int .i64 (.lit 7)] 120, .sp .u64 116 4096 [(0, 1), (1, 2), (2, 3), (3, 0), (4, 1), (5, 1), (7, 0)]]⟩
set_option maxRecDepth 1000000 in
theorem klTk80 : runL [] lTk80 := by intro cs; kernel_rfl
theorem hlTk80 : (lit lTk80).Holds objs Try.prog := lit_holds (callable _ Try.func85 (by kernel_rfl) (by kernel_rfl)) all_nil klTk80
def lTk81 : Lit := ⟨107, [.ptr 0 6], [.sp .u64 116 4096 [(0, 1), (1, 2), (2, 3), (3, 0), (4, 1), (5, 1), (7, 0)]], .bool (.lit true), [.sp .u64 116 4096 [(0, 1), (1, 2), (2, 3), (3, 0), (4, 1), (5, 1), (7, 0)]]⟩
set_option maxRecDepth 1000000 in
theorem klTk81 : runL [] lTk81 := by intro cs; kernel_rfl
theorem hlTk81 : (lit lTk81).Holds objs Try.prog := lit_holds (callable _ Try.func107 (by kernel_rfl) (by kernel_rfl)) all_nil klTk81
def lTk82 : Lit := ⟨86, [.ptr 0 0, .int .i64 (.lit 2), .int .i64 (.lit 6), .ptr 1 6, .func (.func 87) [.agg [.ptr 1 6, .int .u64 (.lit 1), .int .u64 (.lit 0)]] []], [.cells [.ptr 1 0, .int .i64 (.lit 34), .int .i64 (.lit 2), .int .i64 (.lit 5), .int .u64 (.lit 0), .int .u64 (.lit 1), .bool (.lit true), .int .i64 (.lit 7)] 120, .sp .u64 116 4096 [(0, 1), (1, 2), (2, 3), (3, 0), (4, 1), (5, 1), (7, 0)]], .agg [.int .i64 (.lit 2), .int .i64 (.lit 6), .int .u64 (.lit 0), .int .u64 (.lit 1), .bool (.lit true)], [.cells [.ptr 1 0, .int .i64 (.lit 34), .int .i64 (.lit 2), .int .i64 (.lit 6), .int .u64 (.lit 0), .int .u64 (.lit 1), .bool (.lit true), .int .i64 (.lit 8)] 120, .sp .u64 116 4096 [(0, 1), (1, 2), (2, 3), (3, 0), (4, 1), (5, 1), (6, 1), (7, 0)]]⟩
set_option maxRecDepth 1000000 in
theorem klTk82 : runL [lTk81] lTk82 := by intro cs; kernel_rfl
theorem hlTk82 : (lit lTk82).Holds objs Try.prog := lit_holds (callable _ Try.func86 (by kernel_rfl) (by kernel_rfl)) (all_cons hlTk81 all_nil) klTk82
def lTk83 : Lit := ⟨43, [.ptr 0 0, .int .i64 (.lit 6), .int .u64 (.lit 1)], [.cells [.ptr 1 0, .int .i64 (.lit 34), .int .i64 (.lit 2), .int .i64 (.lit 5), .int .u64 (.lit 0), .int .u64 (.lit 1), .bool (.lit true), .int .i64 (.lit 7)] 120, .sp .u64 116 4096 [(0, 1), (1, 2), (2, 3), (3, 0), (4, 1), (5, 1), (7, 0)]], .tuple [], [.cells [.ptr 1 0, .int .i64 (.lit 34), .int .i64 (.lit 2), .int .i64 (.lit 6), .int .u64 (.lit 0), .int .u64 (.lit 1), .bool (.lit true), .int .i64 (.lit 8)] 120, .sp .u64 116 4096 [(0, 1), (1, 2), (2, 3), (3, 0), (4, 1), (5, 1), (6, 1), (7, 0)]]⟩
set_option maxRecDepth 1000000 in
theorem klTk83 : runL [lTk80, lTk82] lTk83 := by intro cs; kernel_rfl
theorem hlTk83 : (lit lTk83).Holds objs Try.prog := lit_holds (callable _ Try.func43 (by kernel_rfl) (by kernel_rfl)) (all_cons hlTk80 (all_cons hlTk82 all_nil)) klTk83
def lTk84 : Lit := ⟨101, [.agg [.int .i64 (.lit 0), .int .i64 (.lit 1), .int .i64 (.lit 3), .int .i64 (.lit 4), .int .i64 (.lit 7), .int .i64 (.lit 9)], .ptr 0 0], [.cells [.ptr 1 0, .int .i64 (.lit 34), .int .i64 (.lit 0), .int .i64 (.lit 0), .int .u64 (.lit 0), .int .u64 (.lit 0), .bool (.lit false), .int .i64 (.lit 0)] 120, .sp .u64 116 4096 []], .tuple [], [.cells [.ptr 1 0, .int .i64 (.lit 34), .int .i64 (.lit 2), .int .i64 (.lit 6), .int .u64 (.lit 0), .int .u64 (.lit 1), .bool (.lit true), .int .i64 (.lit 8)] 120, .sp .u64 116 4096 [(0, 1), (1, 2), (2, 3), (3, 0), (4, 1), (5, 1), (6, 1), (7, 0)]]⟩
set_option maxRecDepth 1000000 in
theorem klTk84 : runL [lTk24, lTk67, lTk71, lTk75, lTk79, lTk83] lTk84 := by intro cs; kernel_rfl
theorem hlTk84 : (lit lTk84).Holds objs Try.prog := lit_holds (callable _ Try.func101 (by kernel_rfl) (by kernel_rfl)) (all_cons hlTk24 (all_cons hlTk67 (all_cons hlTk71 (all_cons hlTk75 (all_cons hlTk79 (all_cons hlTk83 all_nil)))))) klTk84
def lTk85 : Lit := ⟨118, [.agg [.int .i64 (.lit 8), .int .i64 (.lit 9), .int .i64 (.lit 2)]], [], .bool (.lit true), []⟩
set_option maxRecDepth 1000000 in
theorem klTk85 : runL [] lTk85 := by intro cs; kernel_rfl
theorem hlTk85 : (lit lTk85).Holds objs Try.prog := lit_holds (callable _ Try.func118 (by kernel_rfl) (by kernel_rfl)) all_nil klTk85
def lTk86 : Lit := ⟨85, [.ptr 0 0, .int .i64 (.lit 8)], [.cells [.ptr 1 0, .int .i64 (.lit 34), .int .i64 (.lit 2), .int .i64 (.lit 6), .int .u64 (.lit 0), .int .u64 (.lit 1), .bool (.lit true), .int .i64 (.lit 8)] 120, .sp .u64 116 4096 [(0, 1), (1, 2), (2, 3), (3, 0), (4, 1), (5, 1), (6, 1), (7, 0)]], .ptr 1 8, [.cells [.ptr 1 0, .int .i64 (.lit 34), .int .i64 (.lit 2), .int .i64 (.lit 6), .int .u64 (.lit 0), .int .u64 (.lit 1), .bool (.lit true), .int .i64 (.lit 8)] 120, .sp .u64 116 4096 [(0, 1), (1, 2), (2, 3), (3, 0), (4, 1), (5, 1), (6, 1), (7, 0)]]⟩
set_option maxRecDepth 1000000 in
theorem klTk86 : runL [] lTk86 := by intro cs; kernel_rfl
theorem hlTk86 : (lit lTk86).Holds objs Try.prog := lit_holds (callable _ Try.func85 (by kernel_rfl) (by kernel_rfl)) all_nil klTk86
def lTk87 : Lit := ⟨107, [.ptr 0 8], [.sp .u64 116 4096 [(0, 1), (1, 2), (2, 3), (3, 0), (4, 1), (5, 1), (6, 1), (7, 0)]], .bool (.lit true), [.sp .u64 116 4096 [(0, 1), (1, 2), (2, 3), (3, 0), (4, 1), (5, 1), (6, 1), (7, 0)]]⟩
set_option maxRecDepth 1000000 in
theorem klTk87 : runL [] lTk87 := by intro cs; kernel_rfl
theorem hlTk87 : (lit lTk87).Holds objs Try.prog := lit_holds (callable _ Try.func107 (by kernel_rfl) (by kernel_rfl)) all_nil klTk87
def lTk88 : Lit := ⟨86, [.ptr 0 0, .int .i64 (.lit 2), .int .i64 (.lit 8), .ptr 1 8, .func (.func 87) [.agg [.ptr 1 8, .int .u64 (.lit 0), .int .u64 (.lit 0)]] []], [.cells [.ptr 1 0, .int .i64 (.lit 34), .int .i64 (.lit 2), .int .i64 (.lit 6), .int .u64 (.lit 0), .int .u64 (.lit 1), .bool (.lit true), .int .i64 (.lit 8)] 120, .sp .u64 116 4096 [(0, 1), (1, 2), (2, 3), (3, 0), (4, 1), (5, 1), (6, 1), (7, 0)]], .agg [.int .i64 (.lit 2), .int .i64 (.lit 8), .int .u64 (.lit 0), .int .u64 (.lit 0), .bool (.lit true)], [.cells [.ptr 1 0, .int .i64 (.lit 34), .int .i64 (.lit 2), .int .i64 (.lit 8), .int .u64 (.lit 0), .int .u64 (.lit 0), .bool (.lit true), .int .i64 (.lit 9)] 120, .sp .u64 116 4096 [(0, 1), (1, 2), (2, 3), (3, 0), (4, 1), (5, 1), (6, 1), (7, 0), (8, 0)]]⟩
set_option maxRecDepth 1000000 in
theorem klTk88 : runL [lTk87] lTk88 := by intro cs; kernel_rfl
theorem hlTk88 : (lit lTk88).Holds objs Try.prog := lit_holds (callable _ Try.func86 (by kernel_rfl) (by kernel_rfl)) (all_cons hlTk87 all_nil) klTk88
def lTk89 : Lit := ⟨43, [.ptr 0 0, .int .i64 (.lit 8), .int .u64 (.lit 0)], [.cells [.ptr 1 0, .int .i64 (.lit 34), .int .i64 (.lit 2), .int .i64 (.lit 6), .int .u64 (.lit 0), .int .u64 (.lit 1), .bool (.lit true), .int .i64 (.lit 8)] 120, .sp .u64 116 4096 [(0, 1), (1, 2), (2, 3), (3, 0), (4, 1), (5, 1), (6, 1), (7, 0)]], .tuple [], [.cells [.ptr 1 0, .int .i64 (.lit 34), .int .i64 (.lit 2), .int .i64 (.lit 8), .int .u64 (.lit 0), .int .u64 (.lit 0), .bool (.lit true), .int .i64 (.lit 9)] 120, .sp .u64 116 4096 [(0, 1), (1, 2), (2, 3), (3, 0), (4, 1), (5, 1), (6, 1), (7, 0), (8, 0)]]⟩
set_option maxRecDepth 1000000 in
theorem klTk89 : runL [lTk86, lTk88] lTk89 := by intro cs; kernel_rfl
theorem hlTk89 : (lit lTk89).Holds objs Try.prog := lit_holds (callable _ Try.func43 (by kernel_rfl) (by kernel_rfl)) (all_cons hlTk86 (all_cons hlTk88 all_nil)) klTk89
def lTk90 : Lit := ⟨85, [.ptr 0 0, .int .i64 (.lit 9)], [.cells [.ptr 1 0, .int .i64 (.lit 34), .int .i64 (.lit 2), .int .i64 (.lit 8), .int .u64 (.lit 0), .int .u64 (.lit 0), .bool (.lit true), .int .i64 (.lit 9)] 120, .sp .u64 116 4096 [(0, 1), (1, 2), (2, 3), (3, 0), (4, 1), (5, 1), (6, 1), (7, 0), (8, 0)]], .ptr 1 9, [.cells [.ptr 1 0, .int .i64 (.lit 34), .int .i64 (.lit 2), .int .i64 (.lit 8), .int .u64 (.lit 0), .int .u64 (.lit 0), .bool (.lit true), .int .i64 (.lit 9)] 120, .sp .u64 116 4096 [(0, 1), (1, 2), (2, 3), (3, 0), (4, 1), (5, 1), (6, 1), (7, 0), (8, 0)]]⟩
set_option maxRecDepth 1000000 in
theorem klTk90 : runL [] lTk90 := by intro cs; kernel_rfl
theorem hlTk90 : (lit lTk90).Holds objs Try.prog := lit_holds (callable _ Try.func85 (by kernel_rfl) (by kernel_rfl)) all_nil klTk90
def lTk91 : Lit := ⟨107, [.ptr 0 9], [.sp .u64 116 4096 [(0, 1), (1, 2), (2, 3), (3, 0), (4, 1), (5, 1), (6, 1), (7, 0), (8, 0)]], .bool (.lit true), [.sp .u64 116 4096 [(0, 1), (1, 2), (2, 3), (3, 0), (4, 1), (5, 1), (6, 1), (7, 0), (8, 0)]]⟩
set_option maxRecDepth 1000000 in
theorem klTk91 : runL [] lTk91 := by intro cs; kernel_rfl
theorem hlTk91 : (lit lTk91).Holds objs Try.prog := lit_holds (callable _ Try.func107 (by kernel_rfl) (by kernel_rfl)) all_nil klTk91
def lTk92 : Lit := ⟨86, [.ptr 0 0, .int .i64 (.lit 2), .int .i64 (.lit 9), .ptr 1 9, .func (.func 87) [.agg [.ptr 1 9, .int .u64 (.lit 0), .int .u64 (.lit 0)]] []], [.cells [.ptr 1 0, .int .i64 (.lit 34), .int .i64 (.lit 2), .int .i64 (.lit 8), .int .u64 (.lit 0), .int .u64 (.lit 0), .bool (.lit true), .int .i64 (.lit 9)] 120, .sp .u64 116 4096 [(0, 1), (1, 2), (2, 3), (3, 0), (4, 1), (5, 1), (6, 1), (7, 0), (8, 0)]], .agg [.int .i64 (.lit 2), .int .i64 (.lit 9), .int .u64 (.lit 0), .int .u64 (.lit 0), .bool (.lit true)], [.cells [.ptr 1 0, .int .i64 (.lit 34), .int .i64 (.lit 2), .int .i64 (.lit 9), .int .u64 (.lit 0), .int .u64 (.lit 0), .bool (.lit true), .int .i64 (.lit 10)] 120, .sp .u64 116 4096 [(0, 1), (1, 2), (2, 3), (3, 0), (4, 1), (5, 1), (6, 1), (7, 0), (8, 0), (9, 0)]]⟩
set_option maxRecDepth 1000000 in
theorem klTk92 : runL [lTk91] lTk92 := by intro cs; kernel_rfl
theorem hlTk92 : (lit lTk92).Holds objs Try.prog := lit_holds (callable _ Try.func86 (by kernel_rfl) (by kernel_rfl)) (all_cons hlTk91 all_nil) klTk92
def lTk93 : Lit := ⟨43, [.ptr 0 0, .int .i64 (.lit 9), .int .u64 (.lit 0)], [.cells [.ptr 1 0, .int .i64 (.lit 34), .int .i64 (.lit 2), .int .i64 (.lit 8), .int .u64 (.lit 0), .int .u64 (.lit 0), .bool (.lit true), .int .i64 (.lit 9)] 120, .sp .u64 116 4096 [(0, 1), (1, 2), (2, 3), (3, 0), (4, 1), (5, 1), (6, 1), (7, 0), (8, 0)]], .tuple [], [.cells [.ptr 1 0, .int .i64 (.lit 34), .int .i64 (.lit 2), .int .i64 (.lit 9), .int .u64 (.lit 0), .int .u64 (.lit 0), .bool (.lit true), .int .i64 (.lit 10)] 120, .sp .u64 116 4096 [(0, 1), (1, 2), (2, 3), (3, 0), (4, 1), (5, 1), (6, 1), (7, 0), (8, 0), (9, 0)]]⟩
set_option maxRecDepth 1000000 in
theorem klTk93 : runL [lTk90, lTk92] lTk93 := by intro cs; kernel_rfl
theorem hlTk93 : (lit lTk93).Holds objs Try.prog := lit_holds (callable _ Try.func43 (by kernel_rfl) (by kernel_rfl)) (all_cons hlTk90 (all_cons hlTk92 all_nil)) klTk93
def lTk94 : Lit := ⟨85, [.ptr 0 0, .int .i64 (.lit 10)], [.cells [.ptr 1 0, .int .i64 (.lit 34), .int .i64 (.lit 2), .int .i64 (.lit 9), .int .u64 (.lit 0), .int .u64 (.lit 0), .bool (.lit true), .int .i64 (.lit 10)] 120, .sp .u64 116 4096 [(0, 1), (1, 2), (2, 3), (3, 0), (4, 1), (5, 1), (6, 1), (7, 0), (8, 0), (9, 0)]], .ptr 1 10, [.cells [.ptr 1 0, .int .i64 (.lit 34), .int .i64 (.lit 2), .int .i64 (.lit 9), .int .u64 (.lit 0), .int .u64 (.lit 0), .bool (.lit true), .int .i64 (.lit 10)] 120, .sp .u64 116 4096 [(0, 1), (1, 2), (2, 3), (3, 0), (4, 1), (5, 1), (6, 1), (7, 0), (8, 0), (9, 0)]]⟩
set_option maxRecDepth 1000000 in
theorem klTk94 : runL [] lTk94 := by intro cs; kernel_rfl
theorem hlTk94 : (lit lTk94).Holds objs Try.prog := lit_holds (callable _ Try.func85 (by kernel_rfl) (by kernel_rfl)) all_nil klTk94
def lTk95 : Lit := ⟨107, [.ptr 0 10], [.sp .u64 116 4096 [(0, 1), (1, 2), (2, 3), (3, 0), (4, 1), (5, 1), (6, 1), (7, 0), (8, 0), (9, 0)]], .bool (.lit true), [.sp .u64 116 4096 [(0, 1), (1, 2), (2, 3), (3, 0), (4, 1), (5, 1), (6, 1), (7, 0), (8, 0), (9, 0)]]⟩
set_option maxRecDepth 1000000 in
theorem klTk95 : runL [] lTk95 := by intro cs; kernel_rfl
theorem hlTk95 : (lit lTk95).Holds objs Try.prog := lit_holds (callable _ Try.func107 (by kernel_rfl) (by kernel_rfl)) all_nil klTk95
def lTk96 : Lit := ⟨86, [.ptr 0 0, .int .i64 (.lit 2), .int .i64 (.lit 10), .ptr 1 10, .func (.func 87) [.agg [.ptr 1 10, .int .u64 (.lit 0), .int .u64 (.lit 0)]] []], [.cells [.ptr 1 0, .int .i64 (.lit 34), .int .i64 (.lit 2), .int .i64 (.lit 9), .int .u64 (.lit 0), .int .u64 (.lit 0), .bool (.lit true), .int .i64 (.lit 10)] 120, .sp .u64 116 4096 [(0, 1), (1, 2), (2, 3), (3, 0), (4, 1), (5, 1), (6, 1), (7, 0), (8, 0), (9, 0)]], .agg [.int .i64 (.lit 2), .int .i64 (.lit 10), .int .u64 (.lit 0), .int .u64 (.lit 0), .bool (.lit true)], [.cells [.ptr 1 0, .int .i64 (.lit 34), .int .i64 (.lit 2), .int .i64 (.lit 10), .int .u64 (.lit 0), .int .u64 (.lit 0), .bool (.lit true), .int .i64 (.lit 11)] 120, .sp .u64 116 4096 [(0, 1), (1, 2), (2, 3), (3, 0), (4, 1), (5, 1), (6, 1), (7, 0), (8, 0), (9, 0), (10, 0)]]⟩
set_option maxRecDepth 1000000 in
theorem klTk96 : runL [lTk95] lTk96 := by intro cs; kernel_rfl
theorem hlTk96 : (lit lTk96).Holds objs Try.prog := lit_holds (callable _ Try.func86 (by kernel_rfl) (by kernel_rfl)) (all_cons hlTk95 all_nil) klTk96
def lTk97 : Lit := ⟨43, [.ptr 0 0, .int .i64 (.lit 10), .int .u64 (.lit 0)], [.cells [.ptr 1 0, .int .i64 (.lit 34), .int .i64 (.lit 2), .int .i64 (.lit 9), .int .u64 (.lit 0), .int .u64 (.lit 0), .bool (.lit true), .int .i64 (.lit 10)] 120, .sp .u64 116 4096 [(0, 1), (1, 2), (2, 3), (3, 0), (4, 1), (5, 1), (6, 1), (7, 0), (8, 0), (9, 0)]], .tuple [], [.cells [.ptr 1 0, .int .i64 (.lit 34), .int .i64 (.lit 2), .int .i64 (.lit 10), .int .u64 (.lit 0), .int .u64 (.lit 0), .bool (.lit true), .int .i64 (.lit 11)] 120, .sp .u64 116 4096 [(0, 1), (1, 2), (2, 3), (3, 0), (4, 1), (5, 1), (6, 1), (7, 0), (8, 0), (9, 0), (10, 0)]]⟩
set_option maxRecDepth 1000000 in
theorem klTk97 : runL [lTk94, lTk96] lTk97 := by intro cs; kernel_rfl
theorem hlTk97 : (lit lTk97).Holds objs Try.prog := lit_holds (callable _ Try.func43 (by kernel_rfl) (by kernel_rfl)) (all_cons hlTk94 (all_cons hlTk96 all_nil)) klTk97
def lTk98 : Lit := ⟨102, [.agg [.int .i64 (.lit 8), .int .i64 (.lit 9), .int .i64 (.lit 2)], .ptr 0 0], [.cells [.ptr 1 0, .int .i64 (.lit 34), .int .i64 (.lit 2), .int .i64 (.lit 6), .int .u64 (.lit 0), .int .u64 (.lit 1), .bool (.lit true), .int .i64 (.lit 8)] 120, .sp .u64 116 4096 [(0, 1), (1, 2), (2, 3), (3, 0), (4, 1), (5, 1), (6, 1), (7, 0)]], .tuple [], [.cells [.ptr 1 0, .int .i64 (.lit 34), .int .i64 (.lit 2), .int .i64 (.lit 10), .int .u64 (.lit 0), .int .u64 (.lit 0), .bool (.lit true), .int .i64 (.lit 11)] 120, .sp .u64 116 4096 [(0, 1), (1, 2), (2, 3), (3, 0), (4, 1), (5, 1), (6, 1), (7, 0), (8, 0), (9, 0), (10, 0)]]⟩
set_option maxRecDepth 1000000 in
theorem klTk98 : runL [lTk85, lTk89, lTk93, lTk97] lTk98 := by intro cs; kernel_rfl
theorem hlTk98 : (lit lTk98).Holds objs Try.prog := lit_holds (callable _ Try.func102 (by kernel_rfl) (by kernel_rfl)) (all_cons hlTk85 (all_cons hlTk89 (all_cons hlTk93 (all_cons hlTk97 all_nil)))) klTk98
def lTk99 : Lit := ⟨85, [.ptr 0 0, .int .i64 (.lit 11)], [.cells [.ptr 1 0, .int .i64 (.lit 34), .int .i64 (.lit 2), .int .i64 (.lit 10), .int .u64 (.lit 0), .int .u64 (.lit 0), .bool (.lit true), .int .i64 (.lit 11)] 120, .sp .u64 116 4096 [(0, 1), (1, 2), (2, 3), (3, 0), (4, 1), (5, 1), (6, 1), (7, 0), (8, 0), (9, 0), (10, 0)]], .ptr 1 11, [.cells [.ptr 1 0, .int .i64 (.lit 34), .int .i64 (.lit 2), .int .i64 (.lit 10), .int .u64 (.lit 0), .int .u64 (.lit 0), .bool (.lit true), .int .i64 (.lit 11)] 120, .sp .u64 116 4096 [(0, 1), (1, 2), (2, 3), (3, 0), (4, 1), (5, 1), (6, 1), (7, 0), (8, 0), (9, 0), (10, 0)]]⟩
set_option maxRecDepth 1000000 in
theorem klTk99 : runL [] lTk99 := by intro cs; kernel_rfl
theorem hlTk99 : (lit lTk99).Holds objs Try.prog := lit_holds (callable _ Try.func85 (by kernel_rfl) (by kernel_rfl)) all_nil klTk99
def lTk100 : Lit := ⟨107, [.ptr 0 11], [.sp .u64 116 4096 [(0, 1), (1, 2), (2, 3), (3, 0), (4, 1), (5, 1), (6, 1), (7, 0), (8, 0), (9, 0), (10, 0)]], .bool (.lit true), [.sp .u64 116 4096 [(0, 1), (1, 2), (2, 3), (3, 0), (4, 1), (5, 1), (6, 1), (7, 0), (8, 0), (9, 0), (10, 0)]]⟩
set_option maxRecDepth 1000000 in
theorem klTk100 : runL [] lTk100 := by intro cs; kernel_rfl
theorem hlTk100 : (lit lTk100).Holds objs Try.prog := lit_holds (callable _ Try.func107 (by kernel_rfl) (by kernel_rfl)) all_nil klTk100
def lTk101 : Lit := ⟨86, [.ptr 0 0, .int .i64 (.lit 2), .int .i64 (.lit 11), .ptr 1 11, .func (.func 87) [.agg [.ptr 1 11, .int .u64 (.lit 0), .int .u64 (.lit 0)]] []], [.cells [.ptr 1 0, .int .i64 (.lit 34), .int .i64 (.lit 2), .int .i64 (.lit 10), .int .u64 (.lit 0), .int .u64 (.lit 0), .bool (.lit true), .int .i64 (.lit 11)] 120, .sp .u64 116 4096 [(0, 1), (1, 2), (2, 3), (3, 0), (4, 1), (5, 1), (6, 1), (7, 0), (8, 0), (9, 0), (10, 0)]], .agg [.int .i64 (.lit 2), .int .i64 (.lit 11), .int .u64 (.lit 0), .int .u64 (.lit 0), .bool (.lit true)], [.cells [.ptr 1 0, .int .i64 (.lit 34), .int .i64 (.lit 2), .int .i64 (.lit 11), .int .u64 (.lit 0), .int .u64 (.lit 0), .bool (.lit true), .int .i64 (.lit 12)] 120, .sp .u64 116 4096 [(0, 1), (1, 2), (2, 3), (3, 0), (4, 1), (5, 1), (6, 1), (7, 0), (8, 0), (9, 0), (10, 0), (11, 0)]]⟩
set_option maxRecDepth 1000000 in
theorem klTk101 : runL [lTk100] lTk101 := by intro cs; kernel_rfl
theorem hlTk101 : (lit lTk101).Holds objs Try.prog := lit_holds (callable _ Try.func86 (by kernel_rfl) (by kernel_rfl)) (all_cons hlTk100 all_nil) klTk101
def lTk102 : Lit := ⟨43, [.ptr 0 0, .int .i64 (.lit 11), .int .u64 (.lit 0)], [.cells [.ptr 1 0, .int .i64 (.lit 34), .int .i64 (.lit 2), .int .i64 (.lit 10), .int .u64 (.lit 0), .int .u64 (.lit 0), .bool (.lit true), .int .i64 (.lit 11)] 120, .sp .u64 116 4096 [(0, 1), (1, 2), (2, 3), (3, 0), (4, 1), (5, 1), (6, 1), (7, 0), (8, 0), (9, 0), (10, 0)]], .tuple [], [.cells [.ptr 1 0, .int .i64 (.lit 34), .int .i64 (.lit 2), .int .i64 (.lit 11), .int .u64 (.lit 0), .int .u64 (.lit 0), .bool (.lit true), .int .i64 (.lit 12)] 120, .sp .u64 116 4096 [(0, 1), (1, 2), (2, 3), (3, 0), (4, 1), (5, 1), (6, 1), (7, 0), (8, 0), (9, 0), (10, 0), (11, 0)]]⟩
set_option maxRecDepth 1000000 in
theorem klTk102 : runL [lTk99, lTk101] lTk102 := by intro cs; kernel_rfl
theorem hlTk102 : (lit lTk102).Holds objs Try.prog := lit_holds (callable _ Try.func43 (by kernel_rfl) (by kernel_rfl)) (all_cons hlTk99 (all_cons hlTk101 all_nil)) klTk102
def lTk103 : Lit := ⟨85, [.ptr 0 0, .int .i64 (.lit 12)], [.cells [.ptr 1 0, .int .i64 (.lit 34), .int .i64 (.lit 2), .int .i64 (.lit 11), .int .u64 (.lit 0), .int .u64 (.lit 0), .bool (.lit true), .int .i64 (.lit 12)] 120, .sp .u64 116 4096 [(0, 1), (1, 2), (2, 3), (3, 0), (4, 1), (5, 1), (6, 1), (7, 0), (8, 0), (9, 0), (10, 0), (11, 0)]], .ptr 1 12, [.cells [.ptr 1 0, .int .i64 (.lit 34), .int .i64 (.lit 2), .int .i64 (.lit 11), .int .u64 (.lit 0), .int .u64 (.lit 0), .bool (.lit true), .int .i64 (.lit 12)] 120, .sp .u64 116 4096 [(0, 1), (1, 2), (2, 3), (3, 0), (4, 1), (5, 1), (6, 1), (7, 0), (8, 0), (9, 0), (10, 0), (11, 0)]]⟩
set_option maxRecDepth 1000000 in
theorem klTk103 : runL [] lTk103 := by intro cs; kernel_rfl
theorem hlTk103 : (lit lTk103).Holds objs Try.prog := lit_holds (callable _ Try.func85 (by kernel_rfl) (by kernel_rfl)) all_nil klTk103
def lTk104 : Lit := ⟨107, [.ptr 0 12], [.sp .u64 116 4096 [(0, 1), (1, 2), (2, 3), (3, 0), (4, 1), (5, 1), (6, 1), (7, 0), (8, 0), (9, 0), (10, 0), (11, 0)]], .bool (.lit true), [.sp .u64 116 4096 [(0, 1), (1, 2), (2, 3), (3, 0), (4, 1), (5, 1), (6, 1), (7, 0), (8, 0), (9, 0), (10, 0), (11, 0)]]⟩
set_option maxRecDepth 1000000 in
theorem klTk104 : runL [] lTk104 := by intro cs; kernel_rfl
theorem hlTk104 : (lit lTk104).Holds objs Try.prog := lit_holds (callable _ Try.func107 (by kernel_rfl) (by kernel_rfl)) all_nil klTk104
def lTk105 : Lit := ⟨86, [.ptr 0 0, .int .i64 (.lit 2), .int .i64 (.lit 12), .ptr 1 12, .func (.func 87) [.agg [.ptr 1 12, .int .u64 (.lit 0), .int .u64 (.lit 0)]] []], [.cells [.ptr 1 0, .int .i64 (.lit 34), .int .i64 (.lit 2), .int .i64 (.lit 11), .int .u64 (.lit 0), .int .u64 (.lit 0), .bool (.lit true), .int .i64 (.lit 12)] 120, .sp .u64 116 4096 [(0, 1), (1, 2), (2, 3), (3, 0), (4, 1), (5, 1), (6, 1), (7, 0), (8, 0), (9, 0), (10, 0), (11, 0)]], .agg [.int .i64 (.lit 2), .int .i64 (.lit 12), .int .u64 (.lit 0), .int .u64 (.lit 0), .bool (.lit true)], [.cells [.ptr 1 0, .int .i64 (.lit 34), .int .i64 (.lit 2), .int .i64 (.lit 12), .int .u64 (.lit 0), .int .u64 (.lit 0), .bool (.lit true), .int .i64 (.lit 13)] 120, .sp .u64 116 4096 [(0, 1), (1, 2), (2, 3), (3, 0), (4, 1), (5, 1), (6, 1), (7, 0), (8, 0), (9, 0), (10, 0), (11, 0), (12, 0)]]⟩
set_option maxRecDepth 1000000 in
theorem klTk105 : runL [lTk104] lTk105 := by intro cs; kernel_rfl
theorem hlTk105 : (lit lTk105).Holds objs Try.prog := lit_holds (callable _ Try.func86 (by kernel_rfl) (by kernel_rfl)) (all_cons hlTk104 all_nil) klTk105
def lTk106 : Lit := ⟨43, [.ptr 0 0, .int .i64 (.lit 12), .int .u64 (.lit 0)], [.cells [.ptr 1 0, .int .i64 (.lit 34), .int .i64 (.lit 2), .int .i64 (.lit 11), .int .u64 (.lit 0), .int .u64 (.lit 0), .bool (.lit true), .int .i64 (.lit 12)] 120, .sp .u64 116 4096 [(0, 1), (1, 2), (2, 3), (3, 0), (4, 1), (5, 1), (6, 1), (7, 0), (8, 0), (9, 0), (10, 0), (11, 0)]], .tuple [], [.cells [.ptr 1 0, .int .i64 (.lit 34), .int .i64 (.lit 2), .int .i64 (.lit 12), .int .u64 (.lit 0), .int .u64 (.lit 0), .bool (.lit true), .int .i64 (.lit 13)] 120, .sp .u64 116 4096 [(0, 1), (1, 2), (2, 3), (3, 0), (4, 1), (5, 1), (6, 1), (7, 0), (8, 0), (9, 0), (10, 0), (11, 0), (12, 0)]]⟩
set_option maxRecDepth 1000000 in
theorem klTk106 : runL [lTk103, lTk105] lTk106 := by intro cs; kernel_rfl
theorem hlTk106 : (lit lTk106).Holds objs Try.prog := lit_holds (callable _ Try.func43 (by kernel_rfl) (by kernel_rfl)) (all_cons hlTk103 (all_cons hlTk105 all_nil)) klTk106
def lTk107 : Lit := ⟨85, [.ptr 0 0, .int .i64 (.lit 13)], [.cells [.ptr 1 0, .int .i64 (.lit 34), .int .i64 (.lit 2), .int .i64 (.lit 12), .int .u64 (.lit 0), .int .u64 (.lit 0), .bool (.lit true), .int .i64 (.lit 13)] 120, .sp .u64 116 4096 [(0, 1), (1, 2), (2, 3), (3, 0), (4, 1), (5, 1), (6, 1), (7, 0), (8, 0), (9, 0), (10, 0), (11, 0), (12, 0)]], .ptr 1 13, [.cells [.ptr 1 0, .int .i64 (.lit 34), .int .i64 (.lit 2), .int .i64 (.lit 12), .int .u64 (.lit 0), .int .u64 (.lit 0), .bool (.lit true), .int .i64 (.lit 13)] 120, .sp .u64 116 4096 [(0, 1), (1, 2), (2, 3), (3, 0), (4, 1), (5, 1), (6, 1), (7, 0), (8, 0), (9, 0), (10, 0), (11, 0), (12, 0)]]⟩
set_option maxRecDepth 1000000 in
theorem klTk107 : runL [] lTk107 := by intro cs; kernel_rfl
theorem hlTk107 : (lit lTk107).Holds objs Try.prog := lit_holds (callable _ Try.func85 (by kernel_rfl) (by kernel_rfl)) all_nil klTk107
def lTk108 : Lit := ⟨107, [.ptr 0 13], [.sp .u64 116 4096 [(0, 1), (1, 2), (2, 3), (3, 0), (4, 1), (5, 1), (6, 1), (7, 0), (8, 0), (9, 0), (10, 0), (11, 0), (12, 0)]], .bool (.lit true), [.sp .u64 116 4096 [(0, 1), (1, 2), (2, 3), (3, 0), (4, 1), (5, 1), (6, 1), (7, 0), (8, 0), (9, 0), (10, 0), (11, 0), (12, 0)]]⟩
set_option maxRecDepth 1000000 in
theorem klTk108 : runL [] lTk108 := by intro cs; kernel_rfl
theorem hlTk108 : (lit lTk108).Holds objs Try.prog := lit_holds (callable _ Try.func107 (by kernel_rfl) (by kernel_rfl)) all_nil klTk108
def lTk109 : Lit := ⟨86, [.ptr 0 0, .int .i64 (.lit 2), .int .i64 (.lit 13), .ptr 1 13, .func (.func 87) [.agg [.ptr 1 13, .int .u64 (.lit 0), .int .u64 (.lit 0)]] []], [.cells [.ptr 1 0, .int .i64 (.lit 34), .int .i64 (.lit 2), .int .i64 (.lit 12), .int .u64 (.lit 0), .int .u64 (.lit 0), .bool (.lit true), .int .i64 (.lit 13)] 120, .sp .u64 116 4096 [(0, 1), (1, 2), (2, 3), (3, 0), (4, 1), (5, 1), (6, 1), (7, 0), (8, 0), (9, 0), (10, 0), (11, 0), (12, 0)]], .agg [.int .i64 (.lit 2), .int .i64 (.lit 13), .int .u64 (.lit 0), .int .u64 (.lit 0), .bool (.lit true)], [.cells [.ptr 1 0, .int .i64 (.lit 34), .int .i64 (.lit 2), .int .i64 (.lit 13), .int .u64 (.lit 0), .int .u64 (.lit 0), .bool (.lit true), .int .i64 (.lit 14)] 120, .sp .u64 116 4096 [(0, 1), (1, 2), (2, 3), (3, 0), (4, 1), (5, 1), (6, 1), (7, 0), (8, 0), (9, 0), (10, 0), (11, 0), (12, 0), (13, 0)]]⟩
set_option maxRecDepth 1000000 in
theorem klTk109 : runL [lTk108] lTk109 := by intro cs; kernel_rfl
theorem hlTk109 : (lit lTk109).Holds objs Try.prog := lit_holds (callable _ Try.func86 (by kernel_rfl) (by kernel_rfl)) (all_cons hlTk108 all_nil) klTk109
def lTk110 : Lit := ⟨43, [.ptr 0 0, .int .i64 (.lit 13), .int .u64 (.lit 0)], [.cells [.ptr 1 0, .int .i64 (.lit 34), .int .i64 (.lit 2), .int .i64 (.lit 12), .int .u64 (.lit 0), .int .u64 (.lit 0), .bool (.lit true), .int .i64 (.lit 13)] 120, .sp .u64 116 4096 [(0, 1), (1, 2), (2, 3), (3, 0), (4, 1), (5, 1), (6, 1), (7, 0), (8, 0), (9, 0), (10, 0), (11, 0), (12, 0)]], .tuple [], [.cells [.ptr 1 0, .int .i64 (.lit 34), .int .i64 (.lit 2), .int .i64 (.lit 13), .int .u64 (.lit 0), .int .u64 (.lit 0), .bool (.lit true), .int .i64 (.lit 14)] 120, .sp .u64 116 4096 [(0, 1), (1, 2), (2, 3), (3, 0), (4, 1), (5, 1), (6, 1), (7, 0), (8, 0), (9, 0), (10, 0), (11, 0), (12, 0), (13, 0)]]⟩
set_option maxRecDepth 1000000 in
theorem klTk110 : runL [lTk107, lTk109] lTk110 := by intro cs; kernel_rfl
theorem hlTk110 : (lit lTk110).Holds objs Try.prog := lit_holds (callable _ Try.func43 (by kernel_rfl) (by kernel_rfl)) (all_cons hlTk107 (all_cons hlTk109 all_nil)) klTk110
def lTk111 : Lit := ⟨77, [.agg [.int .i64 (.lit 0), .int .i64 (.lit 1), .int .i64 (.lit 3), .int .i64 (.lit 4), .int .i64 (.lit 7), .int .i64 (.lit 9), .int .i64 (.lit 8), .int .i64 (.lit 9), .int .i64 (.lit 2), .int .i64 (.lit 11)], .ptr 0 0], [.cells [.ptr 1 0, .int .i64 (.lit 34), .int .i64 (.lit 0), .int .i64 (.lit 0), .int .u64 (.lit 0), .int .u64 (.lit 0), .bool (.lit false), .int .i64 (.lit 0)] 120, .sp .u64 116 4096 []], .tuple [], [.cells [.ptr 1 0, .int .i64 (.lit 34), .int .i64 (.lit 2), .int .i64 (.lit 13), .int .u64 (.lit 0), .int .u64 (.lit 0), .bool (.lit true), .int .i64 (.lit 14)] 120, .sp .u64 116 4096 [(0, 1), (1, 2), (2, 3), (3, 0), (4, 1), (5, 1), (6, 1), (7, 0), (8, 0), (9, 0), (10, 0), (11, 0), (12, 0), (13, 0)]]⟩
set_option maxRecDepth 1000000 in
theorem klTk111 : runL [lTk84, lTk98, lTk102, lTk106, lTk110] lTk111 := by intro cs; kernel_rfl
theorem hlTk111 : (lit lTk111).Holds objs Try.prog := lit_holds (callable _ Try.func77 (by kernel_rfl) (by kernel_rfl)) (all_cons hlTk84 (all_cons hlTk98 (all_cons hlTk102 (all_cons hlTk106 (all_cons hlTk110 all_nil))))) klTk111
def lTk112 : Lit := ⟨85, [.ptr 0 0, .int .i64 (.lit 14)], [.cells [.ptr 1 0, .int .i64 (.lit 34), .int .i64 (.lit 2), .int .i64 (.lit 13), .int .u64 (.lit 0), .int .u64 (.lit 0), .bool (.lit true), .int .i64 (.lit 14)] 120, .sp .u64 116 4096 [(0, 1), (1, 2), (2, 3), (3, 0), (4, 1), (5, 1), (6, 1), (7, 0), (8, 0), (9, 0), (10, 0), (11, 0), (12, 0), (13, 0)]], .ptr 1 14, [.cells [.ptr 1 0, .int .i64 (.lit 34), .int .i64 (.lit 2), .int .i64 (.lit 13), .int .u64 (.lit 0), .int .u64 (.lit 0), .bool (.lit true), .int .i64 (.lit 14)] 120, .sp .u64 116 4096 [(0, 1), (1, 2), (2, 3), (3, 0), (4, 1), (5, 1), (6, 1), (7, 0), (8, 0), (9, 0), (10, 0), (11, 0), (12, 0), (13, 0)]]⟩
set_option maxRecDepth 1000000 in
theorem klTk112 : runL [] lTk112 := by intro cs; kernel_rfl
theorem hlTk112 : (lit lTk112).Holds objs Try.prog := lit_holds (callable _ Try.func85 (by kernel_rfl) (by kernel_rfl)) all_nil klTk112
def lTk113 : Lit := ⟨107, [.ptr 0 14], [.sp .u64 116 4096 [(0, 1), (1, 2), (2, 3), (3, 0), (4, 1), (5, 1), (6, 1), (7, 0), (8, 0), (9, 0), (10, 0), (11, 0), (12, 0), (13, 0)]], .bool (.lit true), [.sp .u64 116 4096 [(0, 1), (1, 2), (2, 3), (3, 0), (4, 1), (5, 1), (6, 1), (7, 0), (8, 0), (9, 0), (10, 0), (11, 0), (12, 0), (13, 0)]]⟩
set_option maxRecDepth 1000000 in
theorem klTk113 : runL [] lTk113 := by intro cs; kernel_rfl
theorem hlTk113 : (lit lTk113).Holds objs Try.prog := lit_holds (callable _ Try.func107 (by kernel_rfl) (by kernel_rfl)) all_nil klTk113
def lTk114 : Lit := ⟨86, [.ptr 0 0, .int .i64 (.lit 2), .int .i64 (.lit 14), .ptr 1 14, .func (.func 87) [.agg [.ptr 1 14, .int .u64 (.lit 0), .int .u64 (.lit 0)]] []], [.cells [.ptr 1 0, .int .i64 (.lit 34), .int .i64 (.lit 2), .int .i64 (.lit 13), .int .u64 (.lit 0), .int .u64 (.lit 0), .bool (.lit true), .int .i64 (.lit 14)] 120, .sp .u64 116 4096 [(0, 1), (1, 2), (2, 3), (3, 0), (4, 1), (5, 1), (6, 1), (7, 0), (8, 0), (9, 0), (10, 0), (11, 0), (12, 0), (13, 0)]], .agg [.int .i64 (.lit 2), .int .i64 (.lit 14), .int .u64 (.lit 0), .int .u64 (.lit 0), .bool (.lit true)], [.cells [.ptr 1 0, .int .i64 (.lit 34), .int .i64 (.lit 2), .int .i64 (.lit 14), .int .u64 (.lit 0), .int .u64 (.lit 0), .bool (.lit true), .int .i64 (.lit 15)] 120, .sp .u64 116 4096 [(0, 1), (1, 2), (2, 3), (3, 0), (4, 1), (5, 1), (6, 1), (7, 0), (8, 0), (9, 0), (10, 0), (11, 0), (12, 0), (13, 0), (14, 0)]]⟩
set_option maxRecDepth 1000000 in
theorem klTk114 : runL [lTk113] lTk114 := by intro cs; kernel_rfl
theorem hlTk114 : (lit lTk114).Holds objs Try.prog := lit_holds (callable _ Try.func86 (by kernel_rfl) (by kernel_rfl)) (all_cons hlTk113 all_nil) klTk114
def lTk115 : Lit := ⟨43, [.ptr 0 0, .int .i64 (.lit 14), .int .u64 (.lit 0)], [.cells [.ptr 1 0, .int .i64 (.lit 34), .int .i64 (.lit 2), .int .i64 (.lit 13), .int .u64 (.lit 0), .int .u64 (.lit 0), .bool (.lit true), .int .i64 (.lit 14)] 120, .sp .u64 116 4096 [(0, 1), (1, 2), (2, 3), (3, 0), (4, 1), (5, 1), (6, 1), (7, 0), (8, 0), (9, 0), (10, 0), (11, 0), (12, 0), (13, 0)]], .tuple [], [.cells [.ptr 1 0, .int .i64 (.lit 34), .int .i64 (.lit 2), .int .i64 (.lit 14), .int .u64 (.lit 0), .int .u64 (.lit 0), .bool (.lit true), .int .i64 (.lit 15)] 120, .sp .u64 116 4096 [(0, 1), (1, 2), (2, 3), (3, 0), (4, 1), (5, 1), (6, 1), (7, 0), (8, 0), (9, 0), (10, 0), (11, 0), (12, 0), (13, 0), (14, 0)]]⟩
set_option maxRecDepth 1000000 in
theorem klTk115 : runL [lTk112, lTk114] lTk115 := by intro cs; kernel_rfl
theorem hlTk115 : (lit lTk115).Holds objs Try.prog := lit_holds (callable _ Try.func43 (by kernel_rfl) (by kernel_rfl)) (all_cons hlTk112 (all_cons hlTk114 all_nil)) klTk115
def lTk116 : Lit := ⟨85, [.ptr 0 0, .int .i64 (.lit 15)], [.cells [.ptr 1 0, .int .i64 (.lit 34), .int .i64 (.lit 2), .int .i64 (.lit 14), .int .u64 (.lit 0), .int .u64 (.lit 0), .bool (.lit true), .int .i64 (.lit 15)] 120, .sp .u64 116 4096 [(0, 1), (1, 2), (2, 3), (3, 0), (4, 1), (5, 1), (6, 1), (7, 0), (8, 0), (9, 0), (10, 0), (11, 0), (12, 0), (13, 0), (14, 0)]], .ptr 1 15, [.cells [.ptr 1 0, .int .i64 (.lit 34), .int .i64 (.lit 2), .int .i64 (.lit 14), .int .u64 (.lit 0), .int .u64 (.lit 0), .bool (.lit true), .int .i64 (.lit 15)] 120, .sp .u64 116 4096 [(0, 1), (1, 2), (2, 3), (3, 0), (4, 1), (5, 1), (6, 1), (7, 0), (8, 0), (9, 0), (10, 0), (11, 0), (12, 0), (13, 0), (14, 0)]]⟩
set_option maxRecDepth 1000000 in
theorem klTk116 : runL [] lTk116 := by intro cs; kernel_rfl
theorem hlTk116 : (lit lTk116).Holds objs Try.prog := lit_holds (callable _ Try.func85 (by kernel_rfl) (by kernel_rfl)) all_nil klTk116
def lTk117 : Lit := ⟨107, [.ptr 0 15], [.sp .u64 116 4096 [(0, 1), (1, 2), (2, 3), (3, 0), (4, 1), (5, 1), (6, 1), (7, 0), (8, 0), (9, 0), (10, 0), (11, 0), (12, 0), (13, 0), (14, 0)]], .bool (.lit true), [.sp .u64 116 4096 [(0, 1), (1, 2), (2, 3), (3, 0), (4, 1), (5, 1), (6, 1), (7, 0), (8, 0), (9, 0), (10, 0), (11, 0), (12, 0), (13, 0), (14, 0)]]⟩
set_option maxRecDepth 1000000 in
theorem klTk117 : runL [] lTk117 := by intro cs; kernel_rfl
theorem hlTk117 : (lit lTk117).Holds objs Try.prog := lit_holds (callable _ Try.func107 (by kernel_rfl) (by kernel_rfl)) all_nil klTk117
def lTk118 : Lit := ⟨86, [.ptr 0 0, .int .i64 (.lit 2), .int .i64 (.lit 15), .ptr 1 15, .func (.func 87) [.agg [.ptr 1 15, .int .u64 (.lit 0), .int .u64 (.lit 0)]] []], [.cells [.ptr 1 0, .int .i64 (.lit 34), .int .i64 (.lit 2), .int .i64 (.lit 14), .int .u64 (.lit 0), .int .u64 (.lit 0), .bool (.lit true), .int .i64 (.lit 15)] 120, .sp .u64 116 4096 [(0, 1), (1, 2), (2, 3), (3, 0), (4, 1), (5, 1), (6, 1), (7, 0), (8, 0), (9, 0), (10, 0), (11, 0), (12, 0), (13, 0), (14, 0)]], .agg [.int .i64 (.lit 2), .int .i64 (.lit 15), .int .u64 (.lit 0), .int .u64 (.lit 0), .bool (.lit true)], [.cells [.ptr 1 0, .int .i64 (.lit 34), .int .i64 (.lit 2), .int .i64 (.lit 15), .int .u64 (.lit 0), .int .u64 (.lit 0), .bool (.lit true), .int .i64 (.lit 16)] 120, .sp .u64 116 4096 [(0, 1), (1, 2), (2, 3), (3, 0), (4, 1), (5, 1), (6, 1), (7, 0), (8, 0), (9, 0), (10, 0), (11, 0), (12, 0), (13, 0), (14, 0), (15, 0)]]⟩
set_option maxRecDepth 1000000 in
theorem klTk118 : runL [lTk117] lTk118 := by intro cs; kernel_rfl
theorem hlTk118 : (lit lTk118).Holds objs Try.prog := lit_holds (callable _ Try.func86 (by kernel_rfl) (by kernel_rfl)) (all_cons hlTk117 all_nil) klTk118
def lTk119 : Lit := ⟨43, [.ptr 0 0, .int .i64 (.lit 15), .int .u64 (.lit 0)], [.cells [.ptr 1 0, .int .i64 (.lit 34), .int .i64 (.lit 2), .int .i64 (.lit 14), .int .u64 (.lit 0), .int .u64 (.lit 0), .bool (.lit true), .int .i64 (.lit 15)] 120, .sp .u64 116 4096 [(0, 1), (1, 2), (2, 3), (3, 0), (4, 1), (5, 1), (6, 1), (7, 0), (8, 0), (9, 0), (10, 0), (11, 0), (12, 0), (13, 0), (14, 0)]], .tuple [], [.cells [.ptr 1 0, .int .i64 (.lit 34), .int .i64 (.lit 2), .int .i64 (.lit 15), .int .u64 (.lit 0), .int .u64 (.lit 0), .bool (.lit true), .int .i64 (.lit 16)] 120, .sp .u64 116 4096 [(0, 1), (1, 2), (2, 3), (3, 0), (4, 1), (5, 1), (6, 1), (7, 0), (8, 0), (9, 0), (10, 0), (11, 0), (12, 0), (13, 0), (14, 0), (15, 0)]]⟩
set_option maxRecDepth 1000000 in
theorem klTk119 : runL [lTk116, lTk118] lTk119 := by intro cs; kernel_rfl
theorem hlTk119 : (lit lTk119).Holds objs Try.prog := lit_holds (callable _ Try.func43 (by kernel_rfl) (by kernel_rfl)) (all_cons hlTk116 (all_cons hlTk118 all_nil)) klTk119
end Go.Proofs.Ytbmbiiiacajolaa
