/- Calls of a run whose numbers are all known, as a program of ours printed them. -/
import Derived.Test.YtdabdbbgaekmdaaLt
namespace Go.Proofs.Ytdabdbbgaekmdaa
set_option linter.unusedVariables false
set_option linter.unusedSimpArgs false
set_option linter.unusedSectionVars false
open Go Go.RowKit

def lJb0 : Lit := ⟨13, [.int .i64 (.lit 7)], [], .tuple [.ptr 0 0, .int .i64 (.lit 0)], [.cells [.ptr 1 0, .int .i64 (.lit 7), .int .i64 (.lit 0), .int .i64 (.lit 0), .int .u64 (.lit 0), .int .u64 (.lit 0), .bool (.lit false), .int .i64 (.lit 0)] 150, .sp .u64 148 4096 []]⟩
set_option maxRecDepth 1000000 in
theorem klJb0 : runL [] lJb0 := by intro cs; kernel_rfl
theorem hlJb0 : (lit lJb0).Holds objs Try.prog := lit_holds (callable _ Try.func13 (by kernel_rfl) (by kernel_rfl)) all_nil klJb0
def lJb1 : Lit := ⟨144, [.slice 0 (.lit 2) (.lit 2), .slice 1 (.lit 2) (.lit 2)], [.cells [.int .i64 (.lit 0), .int .i64 (.lit 16), .int .i64 (.lit 16), .int .i64 (.lit 48)] 214, .cells [.int .i64 (.lit 1), .int .i64 (.lit 0)] 3], .int .u64 (.lit 1), [.cells [.int .i64 (.lit 0), .int .i64 (.lit 16), .int .i64 (.lit 16), .int .i64 (.lit 48)] 214, .cells [.int .i64 (.lit 1), .int .i64 (.lit 0)] 3]⟩
set_option maxRecDepth 1000000 in
theorem klJb1 : runL [] lJb1 := by intro cs; kernel_rfl
theorem hlJb1 : (lit lJb1).Holds objs Try.prog := lit_holds (callable _ Try.func144 (by kernel_rfl) (by kernel_rfl)) all_nil klJb1
def lJb2 : Lit := ⟨120, [.agg [.int .i64 (.lit 0), .int .i64 (.lit 0)]], [], .tuple [.int .u64 (.lit 1), .int .i64 (.lit 0)], []⟩
set_option maxRecDepth 1000000 in
theorem klJb2 : runL [lJb1] lJb2 := by intro cs; kernel_rfl
theorem hlJb2 : (lit lJb2).Holds objs Try.prog := lit_holds (callable _ Try.func120 (by kernel_rfl) (by kernel_rfl)) (all_cons hlJb1 all_nil) klJb2
def lJb3 : Lit := ⟨79, [.int .i64 (.lit 0)], [], .int .u64 (.lit 1), []⟩
set_option maxRecDepth 1000000 in
theorem klJb3 : runL [lJb2] lJb3 := by intro cs; kernel_rfl
theorem hlJb3 : (lit lJb3).Holds objs Try.prog := lit_holds (callable _ Try.func79 (by kernel_rfl) (by kernel_rfl)) (all_cons hlJb2 all_nil) klJb3
def lJb4 : Lit := ⟨118, [.ptr 0 0, .int .i64 (.lit 2), .int .i64 (.lit 0), .ptr 1 0, .func (.func 119) [.agg [.ptr 1 0, .int .u64 (.lit 1), .int .u64 (.lit 0)]] []], [.cells [.ptr 1 0, .int .i64 (.lit 7), .int .i64 (.lit 0), .int .i64 (.lit 0), .int .u64 (.lit 0), .int .u64 (.lit 0), .bool (.lit false), .int .i64 (.lit 0)] 150, .sp .u64 148 4096 []], .agg [.int .i64 (.lit 2), .int .i64 (.lit 0), .int .u64 (.lit 0), .int .u64 (.lit 1), .bool (.lit true)], [.cells [.ptr 1 0, .int .i64 (.lit 7), .int .i64 (.lit 2), .int .i64 (.lit 0), .int .u64 (.lit 0), .int .u64 (.lit 1), .bool (.lit true), .int .i64 (.lit 1)] 150, .sp .u64 148 4096 [(0, 1)]]⟩
set_option maxRecDepth 1000000 in
theorem klJb4 : runL [] lJb4 := by intro cs; kernel_rfl
theorem hlJb4 : (lit lJb4).Holds objs Try.prog := lit_holds (callable _ Try.func118 (by kernel_rfl) (by kernel_rfl)) all_nil klJb4
def lJb5 : Lit := ⟨78, [.ptr 0 0, .int .i64 (.lit 0), .int .u64 (.lit 1)], [.cells [.ptr 1 0, .int .i64 (.lit 7), .int .i64 (.lit 0), .int .i64 (.lit 0), .int .u64 (.lit 0), .int .u64 (.lit 0), .bool (.lit false), .int .i64 (.lit 0)] 150, .sp .u64 148 4096 []], .tuple [], [.cells [.ptr 1 0, .int .i64 (.lit 7), .int .i64 (.lit 2), .int .i64 (.lit 0), .int .u64 (.lit 0), .int .u64 (.lit 1), .bool (.lit true), .int .i64 (.lit 1)] 150, .sp .u64 148 4096 [(0, 1)]]⟩
set_option maxRecDepth 1000000 in
theorem klJb5 : runL [lJb4] lJb5 := by intro cs; kernel_rfl
theorem hlJb5 : (lit lJb5).Holds objs Try.prog := lit_holds (callable _ Try.func78 (by kernel_rfl) (by kernel_rfl)) (all_cons hlJb4 all_nil) klJb5
def lJb6 : Lit := ⟨144, [.slice 0 (.lit 2) (.lit 2), .slice 1 (.lit 2) (.lit 2)], [.cells [.int .i64 (.lit 0), .int .i64 (.lit 16), .int .i64 (.lit 16), .int .i64 (.lit 48)] 214, .cells [.int .i64 (.lit 2), .int .i64 (.lit 0)] 3], .int .u64 (.lit 2), [.cells [.int .i64 (.lit 0), .int .i64 (.lit 16), .int .i64 (.lit 16), .int .i64 (.lit 48)] 214, .cells [.int .i64 (.lit 2), .int .i64 (.lit 0)] 3]⟩
set_option maxRecDepth 1000000 in
theorem klJb6 : runL [] lJb6 := by intro cs; kernel_rfl
theorem hlJb6 : (lit lJb6).Holds objs Try.prog := lit_holds (callable _ Try.func144 (by kernel_rfl) (by kernel_rfl)) all_nil klJb6
def lJb7 : Lit := ⟨120, [.agg [.int .i64 (.lit 1), .int .i64 (.lit 0)]], [], .tuple [.int .u64 (.lit 2), .int .i64 (.lit 0)], []⟩
set_option maxRecDepth 1000000 in
theorem klJb7 : runL [lJb6] lJb7 := by intro cs; kernel_rfl
theorem hlJb7 : (lit lJb7).Holds objs Try.prog := lit_holds (callable _ Try.func120 (by kernel_rfl) (by kernel_rfl)) (all_cons hlJb6 all_nil) klJb7
def lJb8 : Lit := ⟨79, [.int .i64 (.lit 1)], [], .int .u64 (.lit 2), []⟩
set_option maxRecDepth 1000000 in
theorem klJb8 : runL [lJb7] lJb8 := by intro cs; kernel_rfl
theorem hlJb8 : (lit lJb8).Holds objs Try.prog := lit_holds (callable _ Try.func79 (by kernel_rfl) (by kernel_rfl)) (all_cons hlJb7 all_nil) klJb8
def lJb9 : Lit := ⟨118, [.ptr 0 0, .int .i64 (.lit 2), .int .i64 (.lit 1), .ptr 1 1, .func (.func 119) [.agg [.ptr 1 1, .int .u64 (.lit 2), .int .u64 (.lit 0)]] []], [.cells [.ptr 1 0, .int .i64 (.lit 7), .int .i64 (.lit 2), .int .i64 (.lit 0), .int .u64 (.lit 0), .int .u64 (.lit 1), .bool (.lit true), .int .i64 (.lit 1)] 150, .sp .u64 148 4096 [(0, 1)]], .agg [.int .i64 (.lit 2), .int .i64 (.lit 1), .int .u64 (.lit 0), .int .u64 (.lit 2), .bool (.lit true)], [.cells [.ptr 1 0, .int .i64 (.lit 7), .int .i64 (.lit 2), .int .i64 (.lit 1), .int .u64 (.lit 0), .int .u64 (.lit 2), .bool (.lit true), .int .i64 (.lit 2)] 150, .sp .u64 148 4096 [(0, 1), (1, 2)]]⟩
set_option maxRecDepth 1000000 in
theorem klJb9 : runL [] lJb9 := by intro cs; kernel_rfl
theorem hlJb9 : (lit lJb9).Holds objs Try.prog := lit_holds (callable _ Try.func118 (by kernel_rfl) (by kernel_rfl)) all_nil klJb9
def lJb10 : Lit := ⟨78, [.ptr 0 0, .int .i64 (.lit 1), .int .u64 (.lit 2)], [.cells [.ptr 1 0, .int .i64 (.lit 7), .int .i64 (.lit 2), .int .i64 (.lit 0), .int .u64 (.lit 0), .int .u64 (.lit 1), .bool (.lit true), .int .i64 (.lit 1)] 150, .sp .u64 148 4096 [(0, 1)]], .tuple [], [.cells [.ptr 1 0, .int .i64 (.lit 7), .int .i64 (.lit 2), .int .i64 (.lit 1), .int .u64 (.lit 0), .int .u64 (.lit 2), .bool (.lit true), .int .i64 (.lit 2)] 150, .sp .u64 148 4096 [(0, 1), (1, 2)]]⟩
set_option maxRecDepth 1000000 in
theorem klJb10 : runL [lJb9] lJb10 := by intro cs; kernel_rfl
theorem hlJb10 : (lit lJb10).Holds objs Try.prog := lit_holds (callable _ Try.func78 (by kernel_rfl) (by kernel_rfl)) (all_cons hlJb9 all_nil) klJb10
def lJb11 : Lit := ⟨144, [.slice 0 (.lit 2) (.lit 2), .slice 1 (.lit 2) (.lit 2)], [.cells [.int .i64 (.lit 0), .int .i64 (.lit 16), .int .i64 (.lit 16), .int .i64 (.lit 48)] 214, .cells [.int .i64 (.lit 0), .int .i64 (.lit 0)] 3], .int .u64 (.lit 0), [.cells [.int .i64 (.lit 0), .int .i64 (.lit 16), .int .i64 (.lit 16), .int .i64 (.lit 48)] 214, .cells [.int .i64 (.lit 0), .int .i64 (.lit 0)] 3]⟩
set_option maxRecDepth 1000000 in
theorem klJb11 : runL [] lJb11 := by intro cs; kernel_rfl
theorem hlJb11 : (lit lJb11).Holds objs Try.prog := lit_holds (callable _ Try.func144 (by kernel_rfl) (by kernel_rfl)) all_nil klJb11
def lJb12 : Lit := ⟨120, [.agg [.int .i64 (.lit (-1)), .int .i64 (.lit 0)]], [], .tuple [.int .u64 (.lit 0), .int .i64 (.lit 0)], []⟩
set_option maxRecDepth 1000000 in
theorem klJb12 : runL [lJb11] lJb12 := by intro cs; kernel_rfl
theorem hlJb12 : (lit lJb12).Holds objs Try.prog := lit_holds (callable _ Try.func120 (by kernel_rfl) (by kernel_rfl)) (all_cons hlJb11 all_nil) klJb12
def lJb13 : Lit := ⟨79, [.int .i64 (.lit (-1))], [], .int .u64 (.lit 0), []⟩
set_option maxRecDepth 1000000 in
theorem klJb13 : runL [lJb12] lJb13 := by intro cs; kernel_rfl
theorem hlJb13 : (lit lJb13).Holds objs Try.prog := lit_holds (callable _ Try.func79 (by kernel_rfl) (by kernel_rfl)) (all_cons hlJb12 all_nil) klJb13
def lJb14 : Lit := ⟨118, [.ptr 0 0, .int .i64 (.lit 2), .int .i64 (.lit 2), .ptr 1 2, .func (.func 119) [.agg [.ptr 1 2, .int .u64 (.lit 0), .int .u64 (.lit 0)]] []], [.cells [.ptr 1 0, .int .i64 (.lit 7), .int .i64 (.lit 2), .int .i64 (.lit 1), .int .u64 (.lit 0), .int .u64 (.lit 2), .bool (.lit true), .int .i64 (.lit 2)] 150, .sp .u64 148 4096 [(0, 1), (1, 2)]], .agg [.int .i64 (.lit 2), .int .i64 (.lit 2), .int .u64 (.lit 0), .int .u64 (.lit 0), .bool (.lit true)], [.cells [.ptr 1 0, .int .i64 (.lit 7), .int .i64 (.lit 2), .int .i64 (.lit 2), .int .u64 (.lit 0), .int .u64 (.lit 0), .bool (.lit true), .int .i64 (.lit 3)] 150, .sp .u64 148 4096 [(0, 1), (1, 2), (2, 0)]]⟩
set_option maxRecDepth 1000000 in
theorem klJb14 : runL [] lJb14 := by intro cs; kernel_rfl
theorem hlJb14 : (lit lJb14).Holds objs Try.prog := lit_holds (callable _ Try.func118 (by kernel_rfl) (by kernel_rfl)) all_nil klJb14
def lJb15 : Lit := ⟨78, [.ptr 0 0, .int .i64 (.lit 2), .int .u64 (.lit 0)], [.cells [.ptr 1 0, .int .i64 (.lit 7), .int .i64 (.lit 2), .int .i64 (.lit 1), .int .u64 (.lit 0), .int .u64 (.lit 2), .bool (.lit true), .int .i64 (.lit 2)] 150, .sp .u64 148 4096 [(0, 1), (1, 2)]], .tuple [], [.cells [.ptr 1 0, .int .i64 (.lit 7), .int .i64 (.lit 2), .int .i64 (.lit 2), .int .u64 (.lit 0), .int .u64 (.lit 0), .bool (.lit true), .int .i64 (.lit 3)] 150, .sp .u64 148 4096 [(0, 1), (1, 2), (2, 0)]]⟩
set_option maxRecDepth 1000000 in
theorem klJb15 : runL [lJb14] lJb15 := by intro cs; kernel_rfl
theorem hlJb15 : (lit lJb15).Holds objs Try.prog := lit_holds (callable _ Try.func78 (by kernel_rfl) (by kernel_rfl)) (all_cons hlJb14 all_nil) klJb15
def lJb16 : Lit := ⟨22, [.agg [.int .i64 (.lit 0), .int .i64 (.lit 1), .int .i64 (.lit 2)], .ptr 0 0], [.cells [.ptr 1 0, .int .i64 (.lit 7), .int .i64 (.lit 0), .int .i64 (.lit 0), .int .u64 (.lit 0), .int .u64 (.lit 0), .bool (.lit false), .int .i64 (.lit 0)] 150, .sp .u64 148 4096 []], .tuple [], [.cells [.ptr 1 0, .int .i64 (.lit 7), .int .i64 (.lit 2), .int .i64 (.lit 2), .int .u64 (.lit 0), .int .u64 (.lit 0), .bool (.lit true), .int .i64 (.lit 3)] 150, .sp .u64 148 4096 [(0, 1), (1, 2), (2, 0)]]⟩
set_option maxRecDepth 1000000 in
theorem klJb16 : runL [lJb3, lJb5, lJb8, lJb10, lJb13, lJb15] lJb16 := by intro cs; kernel_rfl
theorem hlJb16 : (lit lJb16).Holds objs Try.prog := lit_holds (callable _ Try.func22 (by kernel_rfl) (by kernel_rfl)) (all_cons hlJb3 (all_cons hlJb5 (all_cons hlJb8 (all_cons hlJb10 (all_cons hlJb13 (all_cons hlJb15 all_nil)))))) klJb16
def lJb17 : Lit := ⟨99, [.agg [.int .i64 (.lit 1), .int .i64 (.lit 0), .int .i64 (.lit 1)]], [], .int .u64 (.lit 4294967297), []⟩
set_option maxRecDepth 1000000 in
theorem klJb17 : runL [] lJb17 := by intro cs; kernel_rfl
theorem hlJb17 : (lit lJb17).Holds objs Try.prog := lit_holds (callable _ Try.func99 (by kernel_rfl) (by kernel_rfl)) all_nil klJb17
def lJb18 : Lit := ⟨118, [.ptr 0 0, .int .i64 (.lit 2), .int .i64 (.lit 3), .ptr 1 3, .func (.func 119) [.agg [.ptr 1 3, .int .u64 (.lit 4294967297), .int .u64 (.lit 0)]] []], [.cells [.ptr 1 0, .int .i64 (.lit 7), .int .i64 (.lit 2), .int .i64 (.lit 2), .int .u64 (.lit 0), .int .u64 (.lit 0), .bool (.lit true), .int .i64 (.lit 3)] 150, .sp .u64 148 4096 [(0, 1), (1, 2), (2, 0)]], .agg [.int .i64 (.lit 2), .int .i64 (.lit 3), .int .u64 (.lit 0), .int .u64 (.lit 4294967297), .bool (.lit true)], [.cells [.ptr 1 0, .int .i64 (.lit 7), .int .i64 (.lit 2), .int .i64 (.lit 3), .int .u64 (.lit 0), .int .u64 (.lit 4294967297), .bool (.lit true), .int .i64 (.lit 4)] 150, .sp .u64 148 4096 [(0, 1), (1, 2), (2, 0), (3, 4294967297)]]⟩
set_option maxRecDepth 1000000 in
theorem klJb18 : runL [] lJb18 := by intro cs; kernel_rfl
theorem hlJb18 : (lit lJb18).Holds objs Try.prog := lit_holds (callable _ Try.func118 (by kernel_rfl) (by kernel_rfl)) all_nil klJb18
def lJb19 : Lit := ⟨78, [.ptr 0 0, .int .i64 (.lit 3), .int .u64 (.lit 4294967297)], [.cells [.ptr 1 0, .int .i64 (.lit 7), .int .i64 (.lit 2), .int .i64 (.lit 2), .int .u64 (.lit 0), .int .u64 (.lit 0), .bool (.lit true), .int .i64 (.lit 3)] 150, .sp .u64 148 4096 [(0, 1), (1, 2), (2, 0)]], .tuple [], [.cells [.ptr 1 0, .int .i64 (.lit 7), .int .i64 (.lit 2), .int .i64 (.lit 3), .int .u64 (.lit 0), .int .u64 (.lit 4294967297), .bool (.lit true), .int .i64 (.lit 4)] 150, .sp .u64 148 4096 [(0, 1), (1, 2), (2, 0), (3, 4294967297)]]⟩
set_option maxRecDepth 1000000 in
theorem klJb19 : runL [lJb18] lJb19 := by intro cs; kernel_rfl
theorem hlJb19 : (lit lJb19).Holds objs Try.prog := lit_holds (callable _ Try.func78 (by kernel_rfl) (by kernel_rfl)) (all_cons hlJb18 all_nil) klJb19
def lJb20 : Lit := ⟨118, [.ptr 0 0, .int .i64 (.lit 2), .int .i64 (.lit 5), .ptr 1 5, .func (.func 119) [.agg [.ptr 1 5, .int .u64 (.lit 0), .int .u64 (.lit 0)]] []], [.cells [.ptr 1 0, .int .i64 (.lit 7), .int .i64 (.lit 2), .int .i64 (.lit 3), .int .u64 (.lit 0), .int .u64 (.lit 4294967297), .bool (.lit true), .int .i64 (.lit 4)] 150, .sp .u64 148 4096 [(0, 1), (1, 2), (2, 0), (3, 4294967297)]], .agg [.int .i64 (.lit 2), .int .i64 (.lit 5), .int .u64 (.lit 0), .int .u64 (.lit 0), .bool (.lit true)], [.cells [.ptr 1 0, .int .i64 (.lit 7), .int .i64 (.lit 2), .int .i64 (.lit 5), .int .u64 (.lit 0), .int .u64 (.lit 0), .bool (.lit true), .int .i64 (.lit 5)] 150, .sp .u64 148 4096 [(0, 1), (1, 2), (2, 0), (3, 4294967297), (5, 0)]]⟩
set_option maxRecDepth 1000000 in
theorem klJb20 : runL [] lJb20 := by intro cs; kernel_rfl
theorem hlJb20 : (lit lJb20).Holds objs Try.prog := lit_holds (callable _ Try.func118 (by kernel_rfl) (by kernel_rfl)) all_nil klJb20
def lJb21 : Lit := ⟨78, [.ptr 0 0, .int .i64 (.lit 5), .int .u64 (.lit 0)], [.cells [.ptr 1 0, .int .i64 (.lit 7), .int .i64 (.lit 2), .int .i64 (.lit 3), .int .u64 (.lit 0), .int .u64 (.lit 4294967297), .bool (.lit true), .int .i64 (.lit 4)] 150, .sp .u64 148 4096 [(0, 1), (1, 2), (2, 0), (3, 4294967297)]], .tuple [], [.cells [.ptr 1 0, .int .i64 (.lit 7), .int .i64 (.lit 2), .int .i64 (.lit 5), .int .u64 (.lit 0), .int .u64 (.lit 0), .bool (.lit true), .int .i64 (.lit 5)] 150, .sp .u64 148 4096 [(0, 1), (1, 2), (2, 0), (3, 4294967297), (5, 0)]]⟩
set_option maxRecDepth 1000000 in
theorem klJb21 : runL [lJb20] lJb21 := by intro cs; kernel_rfl
theorem hlJb21 : (lit lJb21).Holds objs Try.prog := lit_holds (callable _ Try.func78 (by kernel_rfl) (by kernel_rfl)) (all_cons hlJb20 all_nil) klJb21
def lJb22 : Lit := ⟨118, [.ptr 0 0, .int .i64 (.lit 2), .int .i64 (.lit 4), .ptr 1 4, .func (.func 119) [.agg [.ptr 1 4, .int .u64 (.lit 4294967297), .int .u64 (.lit 0)]] []], [.cells [.ptr 1 0, .int .i64 (.lit 7), .int .i64 (.lit 2), .int .i64 (.lit 5), .int .u64 (.lit 0), .int .u64 (.lit 0), .bool (.lit true), .int .i64 (.lit 5)] 150, .sp .u64 148 4096 [(0, 1), (1, 2), (2, 0), (3, 4294967297), (5, 0)]], .agg [.int .i64 (.lit 2), .int .i64 (.lit 4), .int .u64 (.lit 0), .int .u64 (.lit 4294967297), .bool (.lit true)], [.cells [.ptr 1 0, .int .i64 (.lit 7), .int .i64 (.lit 2), .int .i64 (.lit 4), .int .u64 (.lit 0), .int .u64 (.lit 4294967297), .bool (.lit true), .int .i64 (.lit 6)] 150, .sp .u64 148 4096 [(0, 1), (1, 2), (2, 0), (3, 4294967297), (4, 4294967297), (5, 0)]]⟩
set_option maxRecDepth 1000000 in
theorem klJb22 : runL [] lJb22 := by intro cs; kernel_rfl
theorem hlJb22 : (lit lJb22).Holds objs Try.prog := lit_holds (callable _ Try.func118 (by kernel_rfl) (by kernel_rfl)) all_nil klJb22
def lJb23 : Lit := ⟨78, [.ptr 0 0, .int .i64 (.lit 4), .int .u64 (.lit 4294967297)], [.cells [.ptr 1 0, .int .i64 (.lit 7), .int .i64 (.lit 2), .int .i64 (.lit 5), .int .u64 (.lit 0), .int .u64 (.lit 0), .bool (.lit true), .int .i64 (.lit 5)] 150, .sp .u64 148 4096 [(0, 1), (1, 2), (2, 0), (3, 4294967297), (5, 0)]], .tuple [], [.cells [.ptr 1 0, .int .i64 (.lit 7), .int .i64 (.lit 2), .int .i64 (.lit 4), .int .u64 (.lit 0), .int .u64 (.lit 4294967297), .bool (.lit true), .int .i64 (.lit 6)] 150, .sp .u64 148 4096 [(0, 1), (1, 2), (2, 0), (3, 4294967297), (4, 4294967297), (5, 0)]]⟩
set_option maxRecDepth 1000000 in
theorem klJb23 : runL [lJb22] lJb23 := by intro cs; kernel_rfl
theorem hlJb23 : (lit lJb23).Holds objs Try.prog := lit_holds (callable _ Try.func78 (by kernel_rfl) (by kernel_rfl)) (all_cons hlJb22 all_nil) klJb23
def lJb24 : Lit := ⟨118, [.ptr 0 0, .int .i64 (.lit 2), .int .i64 (.lit 6), .ptr 1 6, .func (.func 119) [.agg [.ptr 1 6, .int .u64 (.lit 0), .int .u64 (.lit 0)]] []], [.cells [.ptr 1 0, .int .i64 (.lit 7), .int .i64 (.lit 2), .int .i64 (.lit 4), .int .u64 (.lit 0), .int .u64 (.lit 4294967297), .bool (.lit true), .int .i64 (.lit 6)] 150, .sp .u64 148 4096 [(0, 1), (1, 2), (2, 0), (3, 4294967297), (4, 4294967297), (5, 0)]], .agg [.int .i64 (.lit 2), .int .i64 (.lit 6), .int .u64 (.lit 0), .int .u64 (.lit 0), .bool (.lit true)], [.cells [.ptr 1 0, .int .i64 (.lit 7), .int .i64 (.lit 2), .int .i64 (.lit 6), .int .u64 (.lit 0), .int .u64 (.lit 0), .bool (.lit true), .int .i64 (.lit 7)] 150, .sp .u64 148 4096 [(0, 1), (1, 2), (2, 0), (3, 4294967297), (4, 4294967297), (5, 0), (6, 0)]]⟩
set_option maxRecDepth 1000000 in
theorem klJb24 : runL [] lJb24 := by intro cs; kernel_rfl
theorem hlJb24 : (lit lJb24).Holds objs Try.prog := lit_holds (callable _ Try.func118 (by kernel_rfl) (by kernel_rfl)) all_nil klJb24
def lJb25 : Lit := ⟨78, [.ptr 0 0, .int .i64 (.lit 6), .int .u64 (.lit 0)], [.cells [.ptr 1 0, .int .i64 (.lit 7), .int .i64 (.lit 2), .int .i64 (.lit 4), .int .u64 (.lit 0), .int .u64 (.lit 4294967297), .bool (.lit true), .int .i64 (.lit 6)] 150, .sp .u64 148 4096 [(0, 1), (1, 2), (2, 0), (3, 4294967297), (4, 4294967297), (5, 0)]], .tuple [], [.cells [.ptr 1 0, .int .i64 (.lit 7), .int .i64 (.lit 2), .int .i64 (.lit 6), .int .u64 (.lit 0), .int .u64 (.lit 0), .bool (.lit true), .int .i64 (.lit 7)] 150, .sp .u64 148 4096 [(0, 1), (1, 2), (2, 0), (3, 4294967297), (4, 4294967297), (5, 0), (6, 0)]]⟩
set_option maxRecDepth 1000000 in
theorem klJb25 : runL [lJb24] lJb25 := by intro cs; kernel_rfl
theorem hlJb25 : (lit lJb25).Holds objs Try.prog := lit_holds (callable _ Try.func78 (by kernel_rfl) (by kernel_rfl)) (all_cons hlJb24 all_nil) klJb25
def lJb26 : Lit := ⟨66, [.agg [.int .i64 (.lit 3), .int .i64 (.lit 5), .int .i64 (.lit 0), .int .i64 (.lit 1), .int .i64 (.lit 2)], .ptr 0 0], [.cells [.ptr 1 0, .int .i64 (.lit 7), .int .i64 (.lit 0), .int .i64 (.lit 0), .int .u64 (.lit 0), .int .u64 (.lit 0), .bool (.lit false), .int .i64 (.lit 0)] 150, .sp .u64 148 4096 []], .tuple [], [.cells [.ptr 1 0, .int .i64 (.lit 7), .int .i64 (.lit 2), .int .i64 (.lit 6), .int .u64 (.lit 0), .int .u64 (.lit 0), .bool (.lit true), .int .i64 (.lit 7)] 150, .sp .u64 148 4096 [(0, 1), (1, 2), (2, 0), (3, 4294967297), (4, 4294967297), (5, 0), (6, 0)]]⟩
set_option maxRecDepth 1000000 in
theorem klJb26 : runL [lJb16, lJb17, lJb19, lJb21, lJb23, lJb25] lJb26 := by intro cs; kernel_rfl
theorem hlJb26 : (lit lJb26).Holds objs Try.prog := lit_holds (callable _ Try.func66 (by kernel_rfl) (by kernel_rfl)) (all_cons hlJb16 (all_cons hlJb17 (all_cons hlJb19 (all_cons hlJb21 (all_cons hlJb23 (all_cons hlJb25 all_nil)))))) klJb26
def lJb27 : Lit := ⟨29, [.ptr 0 0], [.cells [.ptr 1 0, .int .i64 (.lit 7), .int .i64 (.lit 2), .int .i64 (.lit 6), .int .u64 (.lit 0), .int .u64 (.lit 0), .bool (.lit true), .int .i64 (.lit 7)] 150, .sp .u64 148 4096 [(0, 1), (1, 2), (2, 0), (3, 4294967297), (4, 4294967297), (5, 0), (6, 0)]], .slice 2 (.lit 7) (.lit 7), [.cells [.ptr 1 0, .int .i64 (.lit 7), .int .i64 (.lit 2), .int .i64 (.lit 6), .int .u64 (.lit 0), .int .u64 (.lit 0), .bool (.lit true), .int .i64 (.lit 7)] 150, .sp .u64 148 4096 [(0, 1), (1, 2), (2, 0), (3, 4294967297), (4, 4294967297), (5, 0), (6, 0)], .cells [.int .u64 (.lit 1), .int .u64 (.lit 2), .int .u64 (.lit 0), .int .u64 (.lit 4294967297), .int .u64 (.lit 4294967297), .int .u64 (.lit 0), .int .u64 (.lit 0)] 30]⟩
set_option maxRecDepth 1000000 in
theorem klJb27 : runL [] lJb27 := by intro cs; kernel_rfl
theorem hlJb27 : (lit lJb27).Holds objs Try.prog := lit_holds (callable _ Try.func29 (by kernel_rfl) (by kernel_rfl)) all_nil klJb27
def lJb28 : Lit := ⟨28, [.slice 0 (.lit 7) (.lit 7), .slice 1 (.lit 7) (.lit 7)], [.cells [.int .u64 (.lit 1), .int .u64 (.lit 2), .int .u64 (.lit 0), .int .u64 (.lit 4294967297), .int .u64 (.lit 4294967297), .int .u64 (.lit 0), .int .u64 (.lit 0)] 30, .cells [.int .u64 (.lit 1), .int .u64 (.lit 2), .int .u64 (.lit 0), .int .u64 (.lit 4294967297), .int .u64 (.lit 4294967297), .int .u64 (.lit 0), .int .u64 (.lit 0)] 30], .bool (.lit true), [.cells [.int .u64 (.lit 1), .int .u64 (.lit 2), .int .u64 (.lit 0), .int .u64 (.lit 4294967297), .int .u64 (.lit 4294967297), .int .u64 (.lit 0), .int .u64 (.lit 0)] 30, .cells [.int .u64 (.lit 1), .int .u64 (.lit 2), .int .u64 (.lit 0), .int .u64 (.lit 4294967297), .int .u64 (.lit 4294967297), .int .u64 (.lit 0), .int .u64 (.lit 0)] 30]⟩
set_option maxRecDepth 1000000 in
theorem klJb28 : runL [] lJb28 := by intro cs; kernel_rfl
theorem hlJb28 : (lit lJb28).Holds objs Try.prog := lit_holds (callable _ Try.func28 (by kernel_rfl) (by kernel_rfl)) all_nil klJb28
def lJb29 : Lit := ⟨68, [], [], .ptr 0 0, [.cells [.ptr 1 0, .int .i64 (.lit 7), .int .i64 (.lit 2), .int .i64 (.lit 6), .int .u64 (.lit 0), .int .u64 (.lit 0), .bool (.lit true), .int .i64 (.lit 7)] 150, .sp .u64 148 4096 [(0, 1), (1, 2), (2, 0), (3, 4294967297), (4, 4294967297), (5, 0), (6, 0)]]⟩
set_option maxRecDepth 1000000 in
theorem klJb29 : runL [lJb0, lJb26, lJb27, lJb28] lJb29 := by intro cs; kernel_rfl
theorem hlJb29 : (lit lJb29).Holds objs Try.prog := lit_holds (callable _ Try.func68 (by kernel_rfl) (by kernel_rfl)) (all_cons hlJb0 (all_cons hlJb26 (all_cons hlJb27 (all_cons hlJb28 all_nil)))) klJb29
def lJb30 : Lit := ⟨114, [.agg [.int .i64 (.lit 3), .int .i64 (.lit 5), .int .i64 (.lit 0), .int .i64 (.lit 1), .int .i64 (.lit 2)]], [], .ptr 0 0, [.cells [.int .i64 (.lit 3), .int .i64 (.lit 5), .int .i64 (.lit 0), .int .i64 (.lit 1), .int .i64 (.lit 2), .int .i64 (.lit 0), .int .u64 (.lit 0), .func (.func 139) [.ptr 0 0] [], .nilf, .bool (.lit true), .int .i64 (.lit 0), .ptr 1 0] 110, .cells [.int .i64 (.lit 0), .int .i64 (.lit 1), .int .i64 (.lit 2), .int .u64 (.lit 0), .int .i64 (.lit 0), .int .i64 (.lit 0), .bool (.lit true), .bool (.lit false), .int .i64 (.lit 0), .func (.func 80) [] []] 35]⟩
set_option maxRecDepth 1000000 in
theorem klJb30 : runL [] lJb30 := by intro cs; kernel_rfl
theorem hlJb30 : (lit lJb30).Holds objs Try.prog := lit_holds (callable _ Try.func114 (by kernel_rfl) (by kernel_rfl)) all_nil klJb30
def lJb31 : Lit := ⟨73, [.ptr 0 0], [.cells [.int .i64 (.lit 0), .int .i64 (.lit 1), .int .i64 (.lit 2), .int .u64 (.lit 0), .int .i64 (.lit 0), .int .i64 (.lit 0), .bool (.lit true), .bool (.lit false), .int .i64 (.lit 0), .func (.func 80) [] []] 35], .bool (.lit false), [.cells [.int .i64 (.lit 0), .int .i64 (.lit 1), .int .i64 (.lit 2), .int .u64 (.lit 0), .int .i64 (.lit 0), .int .i64 (.lit 0), .bool (.lit true), .bool (.lit false), .int .i64 (.lit 0), .func (.func 80) [] []] 35]⟩
set_option maxRecDepth 1000000 in
theorem klJb31 : runL [] lJb31 := by intro cs; kernel_rfl
theorem hlJb31 : (lit lJb31).Holds objs Try.prog := lit_holds (callable _ Try.func73 (by kernel_rfl) (by kernel_rfl)) all_nil klJb31
def lJb32 : Lit := ⟨150, [.agg [.ptr 0 0, .int .u64 (.lit 0), .int .u64 (.lit 0)]], [.sp .u64 148 4096 [(0, 1), (1, 2), (2, 0), (3, 4294967297), (4, 4294967297), (5, 0), (6, 0)]], .tuple [.int .u64 (.lit 1), .bool (.lit false)], [.sp .u64 148 4096 [(0, 1), (1, 2), (2, 0), (3, 4294967297), (4, 4294967297), (5, 0), (6, 0)]]⟩
set_option maxRecDepth 1000000 in
theorem klJb32 : runL [] lJb32 := by intro cs; kernel_rfl
theorem hlJb32 : (lit lJb32).Holds objs Try.prog := lit_holds (callable _ Try.func150 (by kernel_rfl) (by kernel_rfl)) all_nil klJb32
def lJb33 : Lit := ⟨118, [.ptr 0 0, .int .i64 (.lit 1), .int .i64 (.lit 0), .ptr 1 0, .func (.func 150) [.agg [.ptr 1 0, .int .u64 (.lit 0), .int .u64 (.lit 0)]] []], [.cells [.ptr 1 0, .int .i64 (.lit 7), .int .i64 (.lit 2), .int .i64 (.lit 6), .int .u64 (.lit 0), .int .u64 (.lit 0), .bool (.lit true), .int .i64 (.lit 7)] 150, .sp .u64 148 4096 [(0, 1), (1, 2), (2, 0), (3, 4294967297), (4, 4294967297), (5, 0), (6, 0)]], .agg [.int .i64 (.lit 1), .int .i64 (.lit 0), .int .u64 (.lit 1), .int .u64 (.lit 1), .bool (.lit false)], [.cells [.ptr 1 0, .int .i64 (.lit 7), .int .i64 (.lit 1), .int .i64 (.lit 0), .int .u64 (.lit 1), .int .u64 (.lit 1), .bool (.lit false), .int .i64 (.lit 8)] 150, .sp .u64 148 4096 [(0, 1), (1, 2), (2, 0), (3, 4294967297), (4, 4294967297), (5, 0), (6, 0)]]⟩
set_option maxRecDepth 1000000 in
theorem klJb33 : runL [lJb32] lJb33 := by intro cs; kernel_rfl
theorem hlJb33 : (lit lJb33).Holds objs Try.prog := lit_holds (callable _ Try.func118 (by kernel_rfl) (by kernel_rfl)) (all_cons hlJb32 all_nil) klJb33
def lJb34 : Lit := ⟨138, [.ptr 0 0, .int .i64 (.lit 0)], [.cells [.ptr 1 0, .int .i64 (.lit 7), .int .i64 (.lit 2), .int .i64 (.lit 6), .int .u64 (.lit 0), .int .u64 (.lit 0), .bool (.lit true), .int .i64 (.lit 7)] 150, .sp .u64 148 4096 [(0, 1), (1, 2), (2, 0), (3, 4294967297), (4, 4294967297), (5, 0), (6, 0)]], .int .u64 (.lit 1), [.cells [.ptr 1 0, .int .i64 (.lit 7), .int .i64 (.lit 1), .int .i64 (.lit 0), .int .u64 (.lit 1), .int .u64 (.lit 1), .bool (.lit false), .int .i64 (.lit 8)] 150, .sp .u64 148 4096 [(0, 1), (1, 2), (2, 0), (3, 4294967297), (4, 4294967297), (5, 0), (6, 0)]]⟩
set_option maxRecDepth 1000000 in
theorem klJb34 : runL [lJb33] lJb34 := by intro cs; kernel_rfl
theorem hlJb34 : (lit lJb34).Holds objs Try.prog := lit_holds (callable _ Try.func138 (by kernel_rfl) (by kernel_rfl)) (all_cons hlJb33 all_nil) klJb34
def lJb35 : Lit := ⟨146, [.int .u64 (.lit 1)], [], .tuple [.agg [.int .i64 (.lit 0), .int .i64 (.lit 0)], .int .i64 (.lit 0)], []⟩
set_option maxRecDepth 1000000 in
theorem klJb35 : runL [] lJb35 := by intro cs; kernel_rfl
theorem hlJb35 : (lit lJb35).Holds objs Try.prog := lit_holds (callable _ Try.func146 (by kernel_rfl) (by kernel_rfl)) all_nil klJb35
def lJb36 : Lit := ⟨115, [.ptr 0 0, .ptr 1 0], [.cells [.int .i64 (.lit 0), .int .i64 (.lit 1), .int .i64 (.lit 2), .int .u64 (.lit 0), .int .i64 (.lit 0), .int .i64 (.lit 0), .bool (.lit true), .bool (.lit false), .int .i64 (.lit 0), .func (.func 121) [] []] 35, .cells [.ptr 2 0, .int .i64 (.lit 7), .int .i64 (.lit 2), .int .i64 (.lit 6), .int .u64 (.lit 0), .int .u64 (.lit 0), .bool (.lit true), .int .i64 (.lit 7)] 150, .sp .u64 148 4096 [(0, 1), (1, 2), (2, 0), (3, 4294967297), (4, 4294967297), (5, 0), (6, 0)]], .int .i64 (.lit 0), [.cells [.int .i64 (.lit 0), .int .i64 (.lit 1), .int .i64 (.lit 2), .int .u64 (.lit 1), .int .i64 (.lit 0), .int .i64 (.lit 0), .bool (.lit true), .bool (.lit false), .int .i64 (.lit 0), .func (.func 121) [] []] 35, .cells [.ptr 2 0, .int .i64 (.lit 7), .int .i64 (.lit 1), .int .i64 (.lit 0), .int .u64 (.lit 1), .int .u64 (.lit 1), .bool (.lit false), .int .i64 (.lit 8)] 150, .sp .u64 148 4096 [(0, 1), (1, 2), (2, 0), (3, 4294967297), (4, 4294967297), (5, 0), (6, 0)]]⟩
set_option maxRecDepth 1000000 in
theorem klJb36 : runL [lJb34, lJb35] lJb36 := by intro cs; kernel_rfl
theorem hlJb36 : (lit lJb36).Holds objs Try.prog := lit_holds (callable _ Try.func115 (by kernel_rfl) (by kernel_rfl)) (all_cons hlJb34 (all_cons hlJb35 all_nil)) klJb36
def lJb37 : Lit := ⟨80, [.ptr 0 0, .ptr 1 0], [.cells [.int .i64 (.lit 0), .int .i64 (.lit 1), .int .i64 (.lit 2), .int .u64 (.lit 0), .int .i64 (.lit 0), .int .i64 (.lit 0), .bool (.lit true), .bool (.lit false), .int .i64 (.lit 0), .func (.func 80) [] []] 35, .cells [.ptr 2 0, .int .i64 (.lit 7), .int .i64 (.lit 2), .int .i64 (.lit 6), .int .u64 (.lit 0), .int .u64 (.lit 0), .bool (.lit true), .int .i64 (.lit 7)] 150, .sp .u64 148 4096 [(0, 1), (1, 2), (2, 0), (3, 4294967297), (4, 4294967297), (5, 0), (6, 0)]], .tuple [], [.cells [.int .i64 (.lit 0), .int .i64 (.lit 1), .int .i64 (.lit 2), .int .u64 (.lit 1), .int .i64 (.lit 0), .int .i64 (.lit 0), .bool (.lit true), .bool (.lit false), .int .i64 (.lit 0), .func (.func 121) [] []] 35, .cells [.ptr 2 0, .int .i64 (.lit 7), .int .i64 (.lit 1), .int .i64 (.lit 0), .int .u64 (.lit 1), .int .u64 (.lit 1), .bool (.lit false), .int .i64 (.lit 8)] 150, .sp .u64 148 4096 [(0, 1), (1, 2), (2, 0), (3, 4294967297), (4, 4294967297), (5, 0), (6, 0)]]⟩
set_option maxRecDepth 1000000 in
theorem klJb37 : runL [lJb36] lJb37 := by intro cs; kernel_rfl
theorem hlJb37 : (lit lJb37).Holds objs Try.prog := lit_holds (callable _ Try.func80 (by kernel_rfl) (by kernel_rfl)) (all_cons hlJb36 all_nil) klJb37
def lJb38 : Lit := ⟨16, [.ptr 0 0, .ptr 1 0], [.cells [.int .i64 (.lit 0), .int .i64 (.lit 1), .int .i64 (.lit 2), .int .u64 (.lit 0), .int .i64 (.lit 0), .int .i64 (.lit 0), .bool (.lit true), .bool (.lit false), .int .i64 (.lit 0), .func (.func 80) [] []] 35, .cells [.ptr 2 0, .int .i64 (.lit 7), .int .i64 (.lit 2), .int .i64 (.lit 6), .int .u64 (.lit 0), .int .u64 (.lit 0), .bool (.lit true), .int .i64 (.lit 7)] 150, .sp .u64 148 4096 [(0, 1), (1, 2), (2, 0), (3, 4294967297), (4, 4294967297), (5, 0), (6, 0)]], .bool (.lit false), [.cells [.int .i64 (.lit 0), .int .i64 (.lit 1), .int .i64 (.lit 2), .int .u64 (.lit 1), .int .i64 (.lit 0), .int .i64 (.lit 0), .bool (.lit true), .bool (.lit false), .int .i64 (.lit 0), .func (.func 121) [] []] 35, .cells [.ptr 2 0, .int .i64 (.lit 7), .int .i64 (.lit 1), .int .i64 (.lit 0), .int .u64 (.lit 1), .int .u64 (.lit 1), .bool (.lit false), .int .i64 (.lit 8)] 150, .sp .u64 148 4096 [(0, 1), (1, 2), (2, 0), (3, 4294967297), (4, 4294967297), (5, 0), (6, 0)]]⟩
set_option maxRecDepth 1000000 in
theorem klJb38 : runL [lJb31, lJb37] lJb38 := by intro cs; kernel_rfl
theorem hlJb38 : (lit lJb38).Holds objs Try.prog := lit_holds (callable _ Try.func16 (by kernel_rfl) (by kernel_rfl)) (all_cons hlJb31 (all_cons hlJb37 all_nil)) klJb38
def lJb39 : Lit := ⟨139, [.ptr 0 0, .ptr 1 0], [.cells [.int .i64 (.lit 3), .int .i64 (.lit 5), .int .i64 (.lit 0), .int .i64 (.lit 1), .int .i64 (.lit 2), .int .i64 (.lit 0), .int .u64 (.lit 0), .func (.func 139) [.ptr 0 0] [], .nilf, .bool (.lit true), .int .i64 (.lit 0), .ptr 2 0] 110, .cells [.ptr 3 0, .int .i64 (.lit 7), .int .i64 (.lit 2), .int .i64 (.lit 6), .int .u64 (.lit 0), .int .u64 (.lit 0), .bool (.lit true), .int .i64 (.lit 7)] 150, .cells [.int .i64 (.lit 0), .int .i64 (.lit 1), .int .i64 (.lit 2), .int .u64 (.lit 0), .int .i64 (.lit 0), .int .i64 (.lit 0), .bool (.lit true), .bool (.lit false), .int .i64 (.lit 0), .func (.func 80) [] []] 35, .sp .u64 148 4096 [(0, 1), (1, 2), (2, 0), (3, 4294967297), (4, 4294967297), (5, 0), (6, 0)]], .tuple [], [.cells [.int .i64 (.lit 3), .int .i64 (.lit 5), .int .i64 (.lit 0), .int .i64 (.lit 1), .int .i64 (.lit 2), .int .i64 (.lit 0), .int .u64 (.lit 0), .func (.func 139) [.ptr 0 0] [], .func (.func 139) [.ptr 0 0] [], .bool (.lit true), .int .i64 (.lit 0), .ptr 2 0] 110, .cells [.ptr 3 0, .int .i64 (.lit 7), .int .i64 (.lit 1), .int .i64 (.lit 0), .int .u64 (.lit 1), .int .u64 (.lit 1), .bool (.lit false), .int .i64 (.lit 8)] 150, .cells [.int .i64 (.lit 0), .int .i64 (.lit 1), .int .i64 (.lit 2), .int .u64 (.lit 1), .int .i64 (.lit 0), .int .i64 (.lit 0), .bool (.lit true), .bool (.lit false), .int .i64 (.lit 0), .func (.func 121) [] []] 35, .sp .u64 148 4096 [(0, 1), (1, 2), (2, 0), (3, 4294967297), (4, 4294967297), (5, 0), (6, 0)]]⟩
set_option maxRecDepth 1000000 in
theorem klJb39 : runL [lJb38] lJb39 := by intro cs; kernel_rfl
theorem hlJb39 : (lit lJb39).Holds objs Try.prog := lit_holds (callable _ Try.func139 (by kernel_rfl) (by kernel_rfl)) (all_cons hlJb38 all_nil) klJb39
end Go.Proofs.Ytdabdbbgaekmdaa
