/- Calls of a run whose numbers are all known, as a program of ours printed them. -/
import Derived.Test.YtbmbiiiacajolaaLt
import Derived.Test.YtbmbiiiacajolaaTk1
import Derived.Test.YtbmbiiiacajolaaTk2
import Derived.Test.YtbmbiiiacajolaaTk4
import Derived.Test.YtbmbiiiacajolaaTk5
namespace Go.Proofs.Ytbmbiiiacajolaa
set_option linter.unusedVariables false
set_option linter.unusedSimpArgs false
set_option linter.unusedSectionVars false
open Go Go.RowKit

def lTk200 : Lit := ⟨99, [.int .u64 (.lit 9223372036854775808)], [], .tuple [.agg [.int .i64 (.lit (-1)), .int .i64 (.lit 140737488355328)], .int .i64 (.lit 0)], []⟩
set_option maxRecDepth 1000000 in
theorem klTk200 : runL [lTk27, lTk198, lTk199] lTk200 := by intro cs; kernel_rfl
theorem hlTk200 : (lit lTk200).Holds objs Try.prog := lit_holds (callable _ Try.func99 (by kernel_rfl) (by kernel_rfl)) (all_cons hlTk27 (all_cons hlTk198 (all_cons hlTk199 all_nil))) klTk200
def lTk201 : Lit := ⟨70, [.agg [.int .i64 (.lit 16), .int .i64 (.lit 14), .int .i64 (.lit 2), .int .i64 (.lit 0), .int .i64 (.lit 1), .int .i64 (.lit 3), .int .i64 (.lit 4), .int .i64 (.lit 7), .int .i64 (.lit 9), .int .i64 (.lit 8), .int .i64 (.lit 9), .int .i64 (.lit 2), .int .i64 (.lit 11)], .int .u64 (.lit 9223372036854775808)], [], .int .i64 (.lit (-1)), []⟩
set_option maxRecDepth 1000000 in
theorem klTk201 : runL [lTk200] lTk201 := by intro cs; kernel_rfl
theorem hlTk201 : (lit lTk201).Holds objs Try.prog := lit_holds (callable _ Try.func70 (by kernel_rfl) (by kernel_rfl)) (all_cons hlTk200 all_nil) klTk201
def lTk202 : Lit := ⟨76, [.int .u64 (.lit 9223372036854775808)], [], .bool (.lit true), []⟩
set_option maxRecDepth 1000000 in
theorem klTk202 : runL [] lTk202 := by intro cs; kernel_rfl
theorem hlTk202 : (lit lTk202).Holds objs Try.prog := lit_holds (callable _ Try.func76 (by kernel_rfl) (by kernel_rfl)) all_nil klTk202
def lTk203 : Lit := ⟨59, [.ptr 0 0], [.cells [.ptr 1 0, .int .i64 (.lit 34), .int .i64 (.lit 2), .int .i64 (.lit 25), .int .u64 (.lit 0), .int .u64 (.lit 2), .bool (.lit true), .int .i64 (.lit 20)] 120, .sp .u64 116 4096 [(0, 1), (1, 2), (2, 3), (3, 0), (4, 1), (5, 1), (6, 1), (7, 0), (8, 0), (9, 0), (10, 0), (11, 0), (12, 0), (13, 0), (14, 0), (15, 0), (22, 7), (23, 5), (24, 2), (25, 2)]], .slice 2 (.lit 34) (.lit 34), [.cells [.ptr 1 0, .int .i64 (.lit 34), .int .i64 (.lit 2), .int .i64 (.lit 25), .int .u64 (.lit 0), .int .u64 (.lit 2), .bool (.lit true), .int .i64 (.lit 20)] 120, .sp .u64 116 4096 [(0, 1), (1, 2), (2, 3), (3, 0), (4, 1), (5, 1), (6, 1), (7, 0), (8, 0), (9, 0), (10, 0), (11, 0), (12, 0), (13, 0), (14, 0), (15, 0), (22, 7), (23, 5), (24, 2), (25, 2)], .cells [.int .u64 (.lit 1), .int .u64 (.lit 2), .int .u64 (.lit 3), .int .u64 (.lit 0), .int .u64 (.lit 1), .int .u64 (.lit 1), .int .u64 (.lit 1), .int .u64 (.lit 0), .int .u64 (.lit 0), .int .u64 (.lit 0), .int .u64 (.lit 0), .int .u64 (.lit 0), .int .u64 (.lit 0), .int .u64 (.lit 0), .int .u64 (.lit 0), .int .u64 (.lit 0), .int .u64 (.lit 0), .int .u64 (.lit 0), .int .u64 (.lit 0), .int .u64 (.lit 0), .int .u64 (.lit 0), .int .u64 (.lit 0), .int .u64 (.lit 7), .int .u64 (.lit 5), .int .u64 (.lit 2), .int .u64 (.lit 2), .int .u64 (.lit 0), .int .u64 (.lit 0), .int .u64 (.lit 0), .int .u64 (.lit 0), .int .u64 (.lit 0), .int .u64 (.lit 0), .int .u64 (.lit 0), .int .u64 (.lit 0)] 42]⟩
set_option maxRecDepth 1000000 in
theorem klTk203 : runL [] lTk203 := by intro cs; kernel_rfl
theorem hlTk203 : (lit lTk203).Holds objs Try.prog := lit_holds (callable _ Try.func59 (by kernel_rfl) (by kernel_rfl)) all_nil klTk203
def lTk204 : Lit := ⟨74, [.slice 0 (.lit 34) (.lit 34), .int .i64 (.lit 22)], [.cells [.int .u64 (.lit 1), .int .u64 (.lit 2), .int .u64 (.lit 3), .int .u64 (.lit 0), .int .u64 (.lit 1), .int .u64 (.lit 1), .int .u64 (.lit 1), .int .u64 (.lit 0), .int .u64 (.lit 0), .int .u64 (.lit 0), .int .u64 (.lit 0), .int .u64 (.lit 0), .int .u64 (.lit 0), .int .u64 (.lit 0), .int .u64 (.lit 0), .int .u64 (.lit 0), .int .u64 (.lit 0), .int .u64 (.lit 0), .int .u64 (.lit 0), .int .u64 (.lit 0), .int .u64 (.lit 0), .int .u64 (.lit 0), .int .u64 (.lit 7), .int .u64 (.lit 5), .int .u64 (.lit 2), .int .u64 (.lit 2), .int .u64 (.lit 0), .int .u64 (.lit 0), .int .u64 (.lit 0), .int .u64 (.lit 0), .int .u64 (.lit 0), .int .u64 (.lit 0), .int .u64 (.lit 0), .int .u64 (.lit 0)] 42], .int .u64 (.lit 7), [.cells [.int .u64 (.lit 1), .int .u64 (.lit 2), .int .u64 (.lit 3), .int .u64 (.lit 0), .int .u64 (.lit 1), .int .u64 (.lit 1), .int .u64 (.lit 1), .int .u64 (.lit 0), .int .u64 (.lit 0), .int .u64 (.lit 0), .int .u64 (.lit 0), .int .u64 (.lit 0), .int .u64 (.lit 0), .int .u64 (.lit 0), .int .u64 (.lit 0), .int .u64 (.lit 0), .int .u64 (.lit 0), .int .u64 (.lit 0), .int .u64 (.lit 0), .int .u64 (.lit 0), .int .u64 (.lit 0), .int .u64 (.lit 0), .int .u64 (.lit 7), .int .u64 (.lit 5), .int .u64 (.lit 2), .int .u64 (.lit 2), .int .u64 (.lit 0), .int .u64 (.lit 0), .int .u64 (.lit 0), .int .u64 (.lit 0), .int .u64 (.lit 0), .int .u64 (.lit 0), .int .u64 (.lit 0), .int .u64 (.lit 0)] 42]⟩
set_option maxRecDepth 1000000 in
theorem klTk204 : runL [] lTk204 := by intro cs; kernel_rfl
theorem hlTk204 : (lit lTk204).Holds objs Try.prog := lit_holds (callable _ Try.func74 (by kernel_rfl) (by kernel_rfl)) all_nil klTk204
def lTk205 : Lit := ⟨74, [.slice 0 (.lit 34) (.lit 34), .int .i64 (.lit 23)], [.cells [.int .u64 (.lit 1), .int .u64 (.lit 2), .int .u64 (.lit 3), .int .u64 (.lit 0), .int .u64 (.lit 1), .int .u64 (.lit 1), .int .u64 (.lit 1), .int .u64 (.lit 0), .int .u64 (.lit 0), .int .u64 (.lit 0), .int .u64 (.lit 0), .int .u64 (.lit 0), .int .u64 (.lit 0), .int .u64 (.lit 0), .int .u64 (.lit 0), .int .u64 (.lit 0), .int .u64 (.lit 0), .int .u64 (.lit 0), .int .u64 (.lit 0), .int .u64 (.lit 0), .int .u64 (.lit 0), .int .u64 (.lit 0), .int .u64 (.lit 7), .int .u64 (.lit 5), .int .u64 (.lit 2), .int .u64 (.lit 2), .int .u64 (.lit 0), .int .u64 (.lit 0), .int .u64 (.lit 0), .int .u64 (.lit 0), .int .u64 (.lit 0), .int .u64 (.lit 0), .int .u64 (.lit 0), .int .u64 (.lit 0)] 42], .int .u64 (.lit 5), [.cells [.int .u64 (.lit 1), .int .u64 (.lit 2), .int .u64 (.lit 3), .int .u64 (.lit 0), .int .u64 (.lit 1), .int .u64 (.lit 1), .int .u64 (.lit 1), .int .u64 (.lit 0), .int .u64 (.lit 0), .int .u64 (.lit 0), .int .u64 (.lit 0), .int .u64 (.lit 0), .int .u64 (.lit 0), .int .u64 (.lit 0), .int .u64 (.lit 0), .int .u64 (.lit 0), .int .u64 (.lit 0), .int .u64 (.lit 0), .int .u64 (.lit 0), .int .u64 (.lit 0), .int .u64 (.lit 0), .int .u64 (.lit 0), .int .u64 (.lit 7), .int .u64 (.lit 5), .int .u64 (.lit 2), .int .u64 (.lit 2), .int .u64 (.lit 0), .int .u64 (.lit 0), .int .u64 (.lit 0), .int .u64 (.lit 0), .int .u64 (.lit 0), .int .u64 (.lit 0), .int .u64 (.lit 0), .int .u64 (.lit 0)] 42]⟩
set_option maxRecDepth 1000000 in
theorem klTk205 : runL [] lTk205 := by intro cs; kernel_rfl
theorem hlTk205 : (lit lTk205).Holds objs Try.prog := lit_holds (callable _ Try.func74 (by kernel_rfl) (by kernel_rfl)) all_nil klTk205
def lTk206 : Lit := ⟨74, [.slice 0 (.lit 34) (.lit 34), .int .i64 (.lit 24)], [.cells [.int .u64 (.lit 1), .int .u64 (.lit 2), .int .u64 (.lit 3), .int .u64 (.lit 0), .int .u64 (.lit 1), .int .u64 (.lit 1), .int .u64 (.lit 1), .int .u64 (.lit 0), .int .u64 (.lit 0), .int .u64 (.lit 0), .int .u64 (.lit 0), .int .u64 (.lit 0), .int .u64 (.lit 0), .int .u64 (.lit 0), .int .u64 (.lit 0), .int .u64 (.lit 0), .int .u64 (.lit 0), .int .u64 (.lit 0), .int .u64 (.lit 0), .int .u64 (.lit 0), .int .u64 (.lit 0), .int .u64 (.lit 0), .int .u64 (.lit 7), .int .u64 (.lit 5), .int .u64 (.lit 2), .int .u64 (.lit 2), .int .u64 (.lit 0), .int .u64 (.lit 0), .int .u64 (.lit 0), .int .u64 (.lit 0), .int .u64 (.lit 0), .int .u64 (.lit 0), .int .u64 (.lit 0), .int .u64 (.lit 0)] 42], .int .u64 (.lit 2), [.cells [.int .u64 (.lit 1), .int .u64 (.lit 2), .int .u64 (.lit 3), .int .u64 (.lit 0), .int .u64 (.lit 1), .int .u64 (.lit 1), .int .u64 (.lit 1), .int .u64 (.lit 0), .int .u64 (.lit 0), .int .u64 (.lit 0), .int .u64 (.lit 0), .int .u64 (.lit 0), .int .u64 (.lit 0), .int .u64 (.lit 0), .int .u64 (.lit 0), .int .u64 (.lit 0), .int .u64 (.lit 0), .int .u64 (.lit 0), .int .u64 (.lit 0), .int .u64 (.lit 0), .int .u64 (.lit 0), .int .u64 (.lit 0), .int .u64 (.lit 7), .int .u64 (.lit 5), .int .u64 (.lit 2), .int .u64 (.lit 2), .int .u64 (.lit 0), .int .u64 (.lit 0), .int .u64 (.lit 0), .int .u64 (.lit 0), .int .u64 (.lit 0), .int .u64 (.lit 0), .int .u64 (.lit 0), .int .u64 (.lit 0)] 42]⟩
set_option maxRecDepth 1000000 in
theorem klTk206 : runL [] lTk206 := by intro cs; kernel_rfl
theorem hlTk206 : (lit lTk206).Holds objs Try.prog := lit_holds (callable _ Try.func74 (by kernel_rfl) (by kernel_rfl)) all_nil klTk206
def lTk207 : Lit := ⟨74, [.slice 0 (.lit 34) (.lit 34), .int .i64 (.lit 25)], [.cells [.int .u64 (.lit 1), .int .u64 (.lit 2), .int .u64 (.lit 3), .int .u64 (.lit 0), .int .u64 (.lit 1), .int .u64 (.lit 1), .int .u64 (.lit 1), .int .u64 (.lit 0), .int .u64 (.lit 0), .int .u64 (.lit 0), .int .u64 (.lit 0), .int .u64 (.lit 0), .int .u64 (.lit 0), .int .u64 (.lit 0), .int .u64 (.lit 0), .int .u64 (.lit 0), .int .u64 (.lit 0), .int .u64 (.lit 0), .int .u64 (.lit 0), .int .u64 (.lit 0), .int .u64 (.lit 0), .int .u64 (.lit 0), .int .u64 (.lit 7), .int .u64 (.lit 5), .int .u64 (.lit 2), .int .u64 (.lit 2), .int .u64 (.lit 0), .int .u64 (.lit 0), .int .u64 (.lit 0), .int .u64 (.lit 0), .int .u64 (.lit 0), .int .u64 (.lit 0), .int .u64 (.lit 0), .int .u64 (.lit 0)] 42], .int .u64 (.lit 2), [.cells [.int .u64 (.lit 1), .int .u64 (.lit 2), .int .u64 (.lit 3), .int .u64 (.lit 0), .int .u64 (.lit 1), .int .u64 (.lit 1), .int .u64 (.lit 1), .int .u64 (.lit 0), .int .u64 (.lit 0), .int .u64 (.lit 0), .int .u64 (.lit 0), .int .u64 (.lit 0), .int .u64 (.lit 0), .int .u64 (.lit 0), .int .u64 (.lit 0), .int .u64 (.lit 0), .int .u64 (.lit 0), .int .u64 (.lit 0), .int .u64 (.lit 0), .int .u64 (.lit 0), .int .u64 (.lit 0), .int .u64 (.lit 0), .int .u64 (.lit 7), .int .u64 (.lit 5), .int .u64 (.lit 2), .int .u64 (.lit 2), .int .u64 (.lit 0), .int .u64 (.lit 0), .int .u64 (.lit 0), .int .u64 (.lit 0), .int .u64 (.lit 0), .int .u64 (.lit 0), .int .u64 (.lit 0), .int .u64 (.lit 0)] 42]⟩
set_option maxRecDepth 1000000 in
theorem klTk207 : runL [] lTk207 := by intro cs; kernel_rfl
theorem hlTk207 : (lit lTk207).Holds objs Try.prog := lit_holds (callable _ Try.func74 (by kernel_rfl) (by kernel_rfl)) all_nil klTk207
def lTk208 : Lit := ⟨74, [.slice 0 (.lit 34) (.lit 34), .int .i64 (.lit 26)], [.cells [.int .u64 (.lit 1), .int .u64 (.lit 2), .int .u64 (.lit 3), .int .u64 (.lit 0), .int .u64 (.lit 1), .int .u64 (.lit 1), .int .u64 (.lit 1), .int .u64 (.lit 0), .int .u64 (.lit 0), .int .u64 (.lit 0), .int .u64 (.lit 0), .int .u64 (.lit 0), .int .u64 (.lit 0), .int .u64 (.lit 0), .int .u64 (.lit 0), .int .u64 (.lit 0), .int .u64 (.lit 0), .int .u64 (.lit 0), .int .u64 (.lit 0), .int .u64 (.lit 0), .int .u64 (.lit 0), .int .u64 (.lit 0), .int .u64 (.lit 7), .int .u64 (.lit 5), .int .u64 (.lit 2), .int .u64 (.lit 2), .int .u64 (.lit 0), .int .u64 (.lit 0), .int .u64 (.lit 0), .int .u64 (.lit 0), .int .u64 (.lit 0), .int .u64 (.lit 0), .int .u64 (.lit 0), .int .u64 (.lit 0)] 42], .int .u64 (.lit 0), [.cells [.int .u64 (.lit 1), .int .u64 (.lit 2), .int .u64 (.lit 3), .int .u64 (.lit 0), .int .u64 (.lit 1), .int .u64 (.lit 1), .int .u64 (.lit 1), .int .u64 (.lit 0), .int .u64 (.lit 0), .int .u64 (.lit 0), .int .u64 (.lit 0), .int .u64 (.lit 0), .int .u64 (.lit 0), .int .u64 (.lit 0), .int .u64 (.lit 0), .int .u64 (.lit 0), .int .u64 (.lit 0), .int .u64 (.lit 0), .int .u64 (.lit 0), .int .u64 (.lit 0), .int .u64 (.lit 0), .int .u64 (.lit 0), .int .u64 (.lit 7), .int .u64 (.lit 5), .int .u64 (.lit 2), .int .u64 (.lit 2), .int .u64 (.lit 0), .int .u64 (.lit 0), .int .u64 (.lit 0), .int .u64 (.lit 0), .int .u64 (.lit 0), .int .u64 (.lit 0), .int .u64 (.lit 0), .int .u64 (.lit 0)] 42]⟩
set_option maxRecDepth 1000000 in
theorem klTk208 : runL [] lTk208 := by intro cs; kernel_rfl
theorem hlTk208 : (lit lTk208).Holds objs Try.prog := lit_holds (callable _ Try.func74 (by kernel_rfl) (by kernel_rfl)) all_nil klTk208
def lTk209 : Lit := ⟨66, [.agg [.int .i64 (.lit 16), .int .i64 (.lit 3), .int .i64 (.lit 2)], .int .i64 (.lit 1), .int .i64 (.lit 5)], [], .int .i64 (.lit 27), []⟩
set_option maxRecDepth 1000000 in
theorem klTk209 : runL [] lTk209 := by intro cs; kernel_rfl
theorem hlTk209 : (lit lTk209).Holds objs Try.prog := lit_holds (callable _ Try.func66 (by kernel_rfl) (by kernel_rfl)) all_nil klTk209
def lTk210 : Lit := ⟨14, [.agg [.int .i64 (.lit 16), .int .i64 (.lit 14), .int .i64 (.lit 2), .int .i64 (.lit 0), .int .i64 (.lit 1), .int .i64 (.lit 3), .int .i64 (.lit 4), .int .i64 (.lit 7), .int .i64 (.lit 9), .int .i64 (.lit 8), .int .i64 (.lit 9), .int .i64 (.lit 2), .int .i64 (.lit 11)], .int .i64 (.lit 1), .int .i64 (.lit 5)], [], .int .i64 (.lit 27), []⟩
set_option maxRecDepth 1000000 in
theorem klTk210 : runL [lTk1, lTk2, lTk209] lTk210 := by intro cs; kernel_rfl
theorem hlTk210 : (lit lTk210).Holds objs Try.prog := lit_holds (callable _ Try.func14 (by kernel_rfl) (by kernel_rfl)) (all_cons hlTk1 (all_cons hlTk2 (all_cons hlTk209 all_nil))) klTk210
def lTk211 : Lit := ⟨74, [.slice 0 (.lit 34) (.lit 34), .int .i64 (.lit 27)], [.cells [.int .u64 (.lit 1), .int .u64 (.lit 2), .int .u64 (.lit 3), .int .u64 (.lit 0), .int .u64 (.lit 1), .int .u64 (.lit 1), .int .u64 (.lit 1), .int .u64 (.lit 0), .int .u64 (.lit 0), .int .u64 (.lit 0), .int .u64 (.lit 0), .int .u64 (.lit 0), .int .u64 (.lit 0), .int .u64 (.lit 0), .int .u64 (.lit 0), .int .u64 (.lit 0), .int .u64 (.lit 0), .int .u64 (.lit 0), .int .u64 (.lit 0), .int .u64 (.lit 0), .int .u64 (.lit 0), .int .u64 (.lit 0), .int .u64 (.lit 7), .int .u64 (.lit 5), .int .u64 (.lit 2), .int .u64 (.lit 2), .int .u64 (.lit 0), .int .u64 (.lit 0), .int .u64 (.lit 0), .int .u64 (.lit 0), .int .u64 (.lit 0), .int .u64 (.lit 0), .int .u64 (.lit 0), .int .u64 (.lit 0)] 42], .int .u64 (.lit 0), [.cells [.int .u64 (.lit 1), .int .u64 (.lit 2), .int .u64 (.lit 3), .int .u64 (.lit 0), .int .u64 (.lit 1), .int .u64 (.lit 1), .int .u64 (.lit 1), .int .u64 (.lit 0), .int .u64 (.lit 0), .int .u64 (.lit 0), .int .u64 (.lit 0), .int .u64 (.lit 0), .int .u64 (.lit 0), .int .u64 (.lit 0), .int .u64 (.lit 0), .int .u64 (.lit 0), .int .u64 (.lit 0), .int .u64 (.lit 0), .int .u64 (.lit 0), .int .u64 (.lit 0), .int .u64 (.lit 0), .int .u64 (.lit 0), .int .u64 (.lit 7), .int .u64 (.lit 5), .int .u64 (.lit 2), .int .u64 (.lit 2), .int .u64 (.lit 0), .int .u64 (.lit 0), .int .u64 (.lit 0), .int .u64 (.lit 0), .int .u64 (.lit 0), .int .u64 (.lit 0), .int .u64 (.lit 0), .int .u64 (.lit 0)] 42]⟩
set_option maxRecDepth 1000000 in
theorem klTk211 : runL [] lTk211 := by intro cs; kernel_rfl
theorem hlTk211 : (lit lTk211).Holds objs Try.prog := lit_holds (callable _ Try.func74 (by kernel_rfl) (by kernel_rfl)) all_nil klTk211
def lTk212 : Lit := ⟨66, [.agg [.int .i64 (.lit 16), .int .i64 (.lit 3), .int .i64 (.lit 2)], .int .i64 (.lit 0), .int .i64 (.lit 5)], [], .int .i64 (.lit 21), []⟩
set_option maxRecDepth 1000000 in
theorem klTk212 : runL [] lTk212 := by intro cs; kernel_rfl
theorem hlTk212 : (lit lTk212).Holds objs Try.prog := lit_holds (callable _ Try.func66 (by kernel_rfl) (by kernel_rfl)) all_nil klTk212
def lTk213 : Lit := ⟨14, [.agg [.int .i64 (.lit 16), .int .i64 (.lit 14), .int .i64 (.lit 2), .int .i64 (.lit 0), .int .i64 (.lit 1), .int .i64 (.lit 3), .int .i64 (.lit 4), .int .i64 (.lit 7), .int .i64 (.lit 9), .int .i64 (.lit 8), .int .i64 (.lit 9), .int .i64 (.lit 2), .int .i64 (.lit 11)], .int .i64 (.lit 0), .int .i64 (.lit 5)], [], .int .i64 (.lit 21), []⟩
set_option maxRecDepth 1000000 in
theorem klTk213 : runL [lTk1, lTk2, lTk212] lTk213 := by intro cs; kernel_rfl
theorem hlTk213 : (lit lTk213).Holds objs Try.prog := lit_holds (callable _ Try.func14 (by kernel_rfl) (by kernel_rfl)) (all_cons hlTk1 (all_cons hlTk2 (all_cons hlTk212 all_nil))) klTk213
def lTk214 : Lit := ⟨16, [.agg [.int .i64 (.lit 16), .int .i64 (.lit 14), .int .i64 (.lit 2), .int .i64 (.lit 0), .int .i64 (.lit 1), .int .i64 (.lit 3), .int .i64 (.lit 4), .int .i64 (.lit 7), .int .i64 (.lit 9), .int .i64 (.lit 8), .int .i64 (.lit 9), .int .i64 (.lit 2), .int .i64 (.lit 11)], .int .i64 (.lit 0), .int .i64 (.lit 1)], [], .int .i64 (.lit 21), []⟩
set_option maxRecDepth 1000000 in
theorem klTk214 : runL [lTk213] lTk214 := by intro cs; kernel_rfl
theorem hlTk214 : (lit lTk214).Holds objs Try.prog := lit_holds (callable _ Try.func16 (by kernel_rfl) (by kernel_rfl)) (all_cons hlTk213 all_nil) klTk214
def lTk215 : Lit := ⟨18, [], [], .bool (.lit true), []⟩
set_option maxRecDepth 1000000 in
theorem klTk215 : runL [lTk171, lTk0, lTk138, lTk203, lTk204, lTk146, lTk205, lTk155, lTk206, lTk163, lTk207, lTk182, lTk208, lTk210, lTk211, lTk214] lTk215 := by intro cs; kernel_rfl
theorem hlTk215 : (lit lTk215).Holds objs Try.prog := lit_holds (callable _ Try.func18 (by kernel_rfl) (by kernel_rfl)) (all_cons hlTk171 (all_cons hlTk0 (all_cons hlTk138 (all_cons hlTk203 (all_cons hlTk204 (all_cons hlTk146 (all_cons hlTk205 (all_cons hlTk155 (all_cons hlTk206 (all_cons hlTk163 (all_cons hlTk207 (all_cons hlTk182 (all_cons hlTk208 (all_cons hlTk210 (all_cons hlTk211 (all_cons hlTk214 all_nil)))))))))))))))) klTk215
def lTk216 : Lit := ⟨63, [.agg [.int .i64 (.lit 16), .int .i64 (.lit 3), .int .i64 (.lit 2)], .int .i64 (.lit 27)], [], .tuple [.int .i64 (.lit 1), .int .i64 (.lit 5), .bool (.lit true)], []⟩
set_option maxRecDepth 1000000 in
theorem klTk216 : runL [] lTk216 := by intro cs; kernel_rfl
theorem hlTk216 : (lit lTk216).Holds objs Try.prog := lit_holds (callable _ Try.func63 (by kernel_rfl) (by kernel_rfl)) all_nil klTk216
def lTk217 : Lit := ⟨12, [.agg [.int .i64 (.lit 16), .int .i64 (.lit 14), .int .i64 (.lit 2), .int .i64 (.lit 0), .int .i64 (.lit 1), .int .i64 (.lit 3), .int .i64 (.lit 4), .int .i64 (.lit 7), .int .i64 (.lit 9), .int .i64 (.lit 8), .int .i64 (.lit 9), .int .i64 (.lit 2), .int .i64 (.lit 11)], .int .i64 (.lit 27)], [], .tuple [.int .i64 (.lit 1), .int .i64 (.lit 5), .bool (.lit true)], []⟩
set_option maxRecDepth 1000000 in
theorem klTk217 : runL [lTk1, lTk2, lTk216] lTk217 := by intro cs; kernel_rfl
theorem hlTk217 : (lit lTk217).Holds objs Try.prog := lit_holds (callable _ Try.func12 (by kernel_rfl) (by kernel_rfl)) (all_cons hlTk1 (all_cons hlTk2 (all_cons hlTk216 all_nil))) klTk217
def lTk218 : Lit := ⟨53, [.int .i64 (.lit 27), .int .i64 (.lit 1), .int .i64 (.lit 5)], [], .bool (.lit true), []⟩
set_option maxRecDepth 1000000 in
theorem klTk218 : runL [lTk0, lTk217] lTk218 := by intro cs; kernel_rfl
theorem hlTk218 : (lit lTk218).Holds objs Try.prog := lit_holds (callable _ Try.func53 (by kernel_rfl) (by kernel_rfl)) (all_cons hlTk0 (all_cons hlTk217 all_nil)) klTk218
def lTk219 : Lit := ⟨63, [.agg [.int .i64 (.lit 16), .int .i64 (.lit 3), .int .i64 (.lit 2)], .int .i64 (.lit 14)], [], .tuple [.int .i64 (.lit 0), .int .i64 (.lit 0), .bool (.lit false)], []⟩
set_option maxRecDepth 1000000 in
theorem klTk219 : runL [] lTk219 := by intro cs; kernel_rfl
theorem hlTk219 : (lit lTk219).Holds objs Try.prog := lit_holds (callable _ Try.func63 (by kernel_rfl) (by kernel_rfl)) all_nil klTk219
def lTk220 : Lit := ⟨65, [.agg [.int .i64 (.lit 14), .int .i64 (.lit 1), .int .i64 (.lit 2)], .int .i64 (.lit 14)], [], .tuple [.int .i64 (.lit 0), .int .i64 (.lit 0), .bool (.lit true)], []⟩
set_option maxRecDepth 1000000 in
theorem klTk220 : runL [] lTk220 := by intro cs; kernel_rfl
theorem hlTk220 : (lit lTk220).Holds objs Try.prog := lit_holds (callable _ Try.func65 (by kernel_rfl) (by kernel_rfl)) all_nil klTk220
def lTk221 : Lit := ⟨12, [.agg [.int .i64 (.lit 16), .int .i64 (.lit 14), .int .i64 (.lit 2), .int .i64 (.lit 0), .int .i64 (.lit 1), .int .i64 (.lit 3), .int .i64 (.lit 4), .int .i64 (.lit 7), .int .i64 (.lit 9), .int .i64 (.lit 8), .int .i64 (.lit 9), .int .i64 (.lit 2), .int .i64 (.lit 11)], .int .i64 (.lit 14)], [], .tuple [.int .i64 (.lit (-1)), .int .i64 (.lit 4), .bool (.lit true)], []⟩
set_option maxRecDepth 1000000 in
theorem klTk221 : runL [lTk1, lTk2, lTk219, lTk10, lTk220] lTk221 := by intro cs; kernel_rfl
theorem hlTk221 : (lit lTk221).Holds objs Try.prog := lit_holds (callable _ Try.func12 (by kernel_rfl) (by kernel_rfl)) (all_cons hlTk1 (all_cons hlTk2 (all_cons hlTk219 (all_cons hlTk10 (all_cons hlTk220 all_nil))))) klTk221
def lTk222 : Lit := ⟨53, [.int .i64 (.lit 14), .int .i64 (.lit (-1)), .int .i64 (.lit 4)], [], .bool (.lit true), []⟩
set_option maxRecDepth 1000000 in
theorem klTk222 : runL [lTk0, lTk221] lTk222 := by intro cs; kernel_rfl
theorem hlTk222 : (lit lTk222).Holds objs Try.prog := lit_holds (callable _ Try.func53 (by kernel_rfl) (by kernel_rfl)) (all_cons hlTk0 (all_cons hlTk221 all_nil)) klTk222
def lTk223 : Lit := ⟨110, [.int .u64 (.lit 281474976710657), .agg [.int .i64 (.lit 0), .int .i64 (.lit 16)]], [], .int .i64 (.lit 1), []⟩
set_option maxRecDepth 1000000 in
theorem klTk223 : runL [] lTk223 := by intro cs; kernel_rfl
theorem hlTk223 : (lit lTk223).Holds objs Try.prog := lit_holds (callable _ Try.func110 (by kernel_rfl) (by kernel_rfl)) all_nil klTk223
def lTk224 : Lit := ⟨110, [.int .u64 (.lit 281474976710657), .agg [.int .i64 (.lit 16), .int .i64 (.lit 32)]], [], .int .i64 (.lit 0), []⟩
set_option maxRecDepth 1000000 in
theorem klTk224 : runL [] lTk224 := by intro cs; kernel_rfl
theorem hlTk224 : (lit lTk224).Holds objs Try.prog := lit_holds (callable _ Try.func110 (by kernel_rfl) (by kernel_rfl)) all_nil klTk224
def lTk225 : Lit := ⟨76, [.int .u64 (.lit 281474976710657)], [], .bool (.lit false), []⟩
set_option maxRecDepth 1000000 in
theorem klTk225 : runL [] lTk225 := by intro cs; kernel_rfl
theorem hlTk225 : (lit lTk225).Holds objs Try.prog := lit_holds (callable _ Try.func76 (by kernel_rfl) (by kernel_rfl)) all_nil klTk225
def lTk226 : Lit := ⟨96, [.slice 0 (.lit 2) (.lit 2)], [.cells [.int .i64 (.lit 0), .int .i64 (.lit (-1)), .int .i64 (.lit 65534), .int .i64 (.lit 0), .int .i64 (.lit 0), .int .i64 (.lit 4294967295)] 151], .bool (.lit true), [.cells [.int .i64 (.lit 0), .int .i64 (.lit (-1)), .int .i64 (.lit 65534), .int .i64 (.lit 0), .int .i64 (.lit 0), .int .i64 (.lit 4294967295)] 151]⟩
set_option maxRecDepth 1000000 in
theorem klTk226 : runL [] lTk226 := by intro cs; kernel_rfl
theorem hlTk226 : (lit lTk226).Holds objs Try.prog := lit_holds (callable _ Try.func96 (by kernel_rfl) (by kernel_rfl)) all_nil klTk226
def lTk227 : Lit := ⟨114, [.int .u64 (.lit 1), .agg [.int .i64 (.lit 16), .int .i64 (.lit 32)], .int .i64 (.lit 0)], [], .int .u64 (.lit 1), []⟩
set_option maxRecDepth 1000000 in
theorem klTk227 : runL [] lTk227 := by intro cs; kernel_rfl
theorem hlTk227 : (lit lTk227).Holds objs Try.prog := lit_holds (callable _ Try.func114 (by kernel_rfl) (by kernel_rfl)) all_nil klTk227
def lTk228 : Lit := ⟨98, [.slice 0 (.lit 2) (.lit 2), .slice 1 (.lit 2) (.lit 2)], [.cells [.int .i64 (.lit 0), .int .i64 (.lit 16), .int .i64 (.lit 16), .int .i64 (.lit 32)] 154, .cells [.int .i64 (.lit 1), .int .i64 (.lit 0)] 3], .int .u64 (.lit 1), [.cells [.int .i64 (.lit 0), .int .i64 (.lit 16), .int .i64 (.lit 16), .int .i64 (.lit 32)] 154, .cells [.int .i64 (.lit 1), .int .i64 (.lit 0)] 3]⟩
set_option maxRecDepth 1000000 in
theorem klTk228 : runL [lTk28, lTk227] lTk228 := by intro cs; kernel_rfl
theorem hlTk228 : (lit lTk228).Holds objs Try.prog := lit_holds (callable _ Try.func98 (by kernel_rfl) (by kernel_rfl)) (all_cons hlTk28 (all_cons hlTk227 all_nil)) klTk228
def lTk229 : Lit := ⟨58, [.int .u64 (.lit 1), .bool (.lit false)], [], .int .u64 (.lit 1), []⟩
set_option maxRecDepth 1000000 in
theorem klTk229 : runL [] lTk229 := by intro cs; kernel_rfl
theorem hlTk229 : (lit lTk229).Holds objs Try.prog := lit_holds (callable _ Try.func58 (by kernel_rfl) (by kernel_rfl)) all_nil klTk229
def lTk230 : Lit := ⟨57, [.agg [.int .i64 (.lit 0), .int .i64 (.lit 0), .bool (.lit false)]], [], .tuple [.int .u64 (.lit 1), .int .i64 (.lit 0)], []⟩
set_option maxRecDepth 1000000 in
theorem klTk230 : runL [lTk226, lTk121, lTk228, lTk229] lTk230 := by intro cs; kernel_rfl
theorem hlTk230 : (lit lTk230).Holds objs Try.prog := lit_holds (callable _ Try.func57 (by kernel_rfl) (by kernel_rfl)) (all_cons hlTk226 (all_cons hlTk121 (all_cons hlTk228 (all_cons hlTk229 all_nil)))) klTk230
def lTk231 : Lit := ⟨92, [.int .u64 (.lit 281474976710657)], [], .tuple [.agg [.int .i64 (.lit 0), .int .i64 (.lit 0), .bool (.lit false)], .int .i64 (.lit 5)], []⟩
set_option maxRecDepth 1000000 in
theorem klTk231 : runL [lTk121, lTk223, lTk224, lTk225, lTk230] lTk231 := by intro cs; kernel_rfl
theorem hlTk231 : (lit lTk231).Holds objs Try.prog := lit_holds (callable _ Try.func92 (by kernel_rfl) (by kernel_rfl)) (all_cons hlTk121 (all_cons hlTk223 (all_cons hlTk224 (all_cons hlTk225 (all_cons hlTk230 all_nil))))) klTk231
def lTk232 : Lit := ⟨69, [.agg [.int .i64 (.lit 16), .int .i64 (.lit 14), .int .i64 (.lit 2), .int .i64 (.lit 0), .int .i64 (.lit 1), .int .i64 (.lit 3), .int .i64 (.lit 4), .int .i64 (.lit 7), .int .i64 (.lit 9), .int .i64 (.lit 8), .int .i64 (.lit 9), .int .i64 (.lit 2), .int .i64 (.lit 11)], .int .u64 (.lit 281474976710657), .int .i64 (.lit 5), .int .i64 (.lit 2)], [], .int .i64 (.lit 5), []⟩
set_option maxRecDepth 1000000 in
theorem klTk232 : runL [lTk1, lTk231] lTk232 := by intro cs; kernel_rfl
theorem hlTk232 : (lit lTk232).Holds objs Try.prog := lit_holds (callable _ Try.func69 (by kernel_rfl) (by kernel_rfl)) (all_cons hlTk1 (all_cons hlTk231 all_nil)) klTk232
def lTk233 : Lit := ⟨24, [.agg [.int .i64 (.lit 16), .int .i64 (.lit 14), .int .i64 (.lit 2), .int .i64 (.lit 0), .int .i64 (.lit 1), .int .i64 (.lit 3), .int .i64 (.lit 4), .int .i64 (.lit 7), .int .i64 (.lit 9), .int .i64 (.lit 8), .int .i64 (.lit 9), .int .i64 (.lit 2), .int .i64 (.lit 11)], .int .u64 (.lit 281474976710657), .int .u64 (.lit 7), .int .i64 (.lit 5), .int .i64 (.lit 2)], [], .ptr 0 0, [.cells [.bool (.lit true), .int .u64 (.lit 281474976710657), .nilf, .nilf, .nilf, .nilf, .int .i64 (.lit 4), .int .i64 (.lit 5)] 46]⟩
set_option maxRecDepth 1000000 in
theorem klTk233 : runL [lTk232] lTk233 := by intro cs; kernel_rfl
theorem hlTk233 : (lit lTk233).Holds objs Try.prog := lit_holds (callable _ Try.func24 (by kernel_rfl) (by kernel_rfl)) (all_cons hlTk232 all_nil) klTk233
def lTk234 : Lit := ⟨110, [.int .u64 (.lit 0), .agg [.int .i64 (.lit 16), .int .i64 (.lit 32)]], [], .int .i64 (.lit 0), []⟩
set_option maxRecDepth 1000000 in
theorem klTk234 : runL [] lTk234 := by intro cs; kernel_rfl
theorem hlTk234 : (lit lTk234).Holds objs Try.prog := lit_holds (callable _ Try.func110 (by kernel_rfl) (by kernel_rfl)) all_nil klTk234
def lTk235 : Lit := ⟨96, [.slice 0 (.lit 2) (.lit 2)], [.cells [.int .i64 (.lit (-1)), .int .i64 (.lit (-1)), .int .i64 (.lit 65534), .int .i64 (.lit 0), .int .i64 (.lit 0), .int .i64 (.lit 4294967295)] 151], .bool (.lit true), [.cells [.int .i64 (.lit (-1)), .int .i64 (.lit (-1)), .int .i64 (.lit 65534), .int .i64 (.lit 0), .int .i64 (.lit 0), .int .i64 (.lit 4294967295)] 151]⟩
set_option maxRecDepth 1000000 in
theorem klTk235 : runL [] lTk235 := by intro cs; kernel_rfl
theorem hlTk235 : (lit lTk235).Holds objs Try.prog := lit_holds (callable _ Try.func96 (by kernel_rfl) (by kernel_rfl)) all_nil klTk235
def lTk236 : Lit := ⟨114, [.int .u64 (.lit 0), .agg [.int .i64 (.lit 16), .int .i64 (.lit 32)], .int .i64 (.lit 0)], [], .int .u64 (.lit 0), []⟩
set_option maxRecDepth 1000000 in
theorem klTk236 : runL [] lTk236 := by intro cs; kernel_rfl
theorem hlTk236 : (lit lTk236).Holds objs Try.prog := lit_holds (callable _ Try.func114 (by kernel_rfl) (by kernel_rfl)) all_nil klTk236
def lTk237 : Lit := ⟨98, [.slice 0 (.lit 2) (.lit 2), .slice 1 (.lit 2) (.lit 2)], [.cells [.int .i64 (.lit 0), .int .i64 (.lit 16), .int .i64 (.lit 16), .int .i64 (.lit 32)] 154, .cells [.int .i64 (.lit 0), .int .i64 (.lit 0)] 3], .int .u64 (.lit 0), [.cells [.int .i64 (.lit 0), .int .i64 (.lit 16), .int .i64 (.lit 16), .int .i64 (.lit 32)] 154, .cells [.int .i64 (.lit 0), .int .i64 (.lit 0)] 3]⟩
set_option maxRecDepth 1000000 in
theorem klTk237 : runL [lTk58, lTk236] lTk237 := by intro cs; kernel_rfl
theorem hlTk237 : (lit lTk237).Holds objs Try.prog := lit_holds (callable _ Try.func98 (by kernel_rfl) (by kernel_rfl)) (all_cons hlTk58 (all_cons hlTk236 all_nil)) klTk237
def lTk238 : Lit := ⟨58, [.int .u64 (.lit 0), .bool (.lit false)], [], .int .u64 (.lit 0), []⟩
set_option maxRecDepth 1000000 in
theorem klTk238 : runL [] lTk238 := by intro cs; kernel_rfl
theorem hlTk238 : (lit lTk238).Holds objs Try.prog := lit_holds (callable _ Try.func58 (by kernel_rfl) (by kernel_rfl)) all_nil klTk238
def lTk239 : Lit := ⟨57, [.agg [.int .i64 (.lit (-1)), .int .i64 (.lit 0), .bool (.lit false)]], [], .tuple [.int .u64 (.lit 0), .int .i64 (.lit 0)], []⟩
set_option maxRecDepth 1000000 in
theorem klTk239 : runL [lTk235, lTk121, lTk237, lTk238] lTk239 := by intro cs; kernel_rfl
theorem hlTk239 : (lit lTk239).Holds objs Try.prog := lit_holds (callable _ Try.func57 (by kernel_rfl) (by kernel_rfl)) (all_cons hlTk235 (all_cons hlTk121 (all_cons hlTk237 (all_cons hlTk238 all_nil)))) klTk239
end Go.Proofs.Ytbmbiiiacajolaa
