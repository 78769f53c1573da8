/- Calls of a run whose numbers are all known, as a program of ours printed them. -/
import Derived.Test.YtbmbiiiacajolaaLt
import Derived.Test.YtbmbiiiacajolaaTbX
namespace Go.Proofs.Ytbmbiiiacajolaa
set_option linter.unusedVariables false
set_option linter.unusedSimpArgs false
set_option linter.unusedSectionVars false
open Go Go.RowKit

def lNl0 : Lit := ⟨19, [.int .i64 (.lit 34)], [], .tuple [.ptr 0 0, .int .i64 (.lit 0)], [.cells [.ptr 1 0, .int .i64 (.lit 34), .int .i64 (.lit 0), .int .i64 (.lit 0), .int .u64 (.lit 0), .int .u64 (.lit 0), .bool (.lit false), .int .i64 (.lit 0)] 120, .sp .u64 116 4096 []]⟩
set_option maxRecDepth 1000000 in
theorem klNl0 : runL [lTAx] lNl0 := by intro cs; kernel_rfl
theorem hlNl0 : (lit lNl0).Holds objs Try.prog := lit_holds (callable _ Try.func19 (by kernel_rfl) (by kernel_rfl)) (all_cons hlTAx all_nil) klNl0
def lNl1 : Lit := ⟨68, [.nilp], [], .bool (.lit true), []⟩
set_option maxRecDepth 1000000 in
theorem klNl1 : runL [lTAx] lNl1 := by intro cs; kernel_rfl
theorem hlNl1 : (lit lNl1).Holds objs Try.prog := lit_holds (callable _ Try.func68 (by kernel_rfl) (by kernel_rfl)) (all_cons hlTAx all_nil) klNl1
def lNl2 : Lit := ⟨20, [.nilp, .ptr 0 0], [.cells [.ptr 1 0, .int .i64 (.lit 34), .int .i64 (.lit 0), .int .i64 (.lit 0), .int .u64 (.lit 0), .int .u64 (.lit 0), .bool (.lit false), .int .i64 (.lit 0)] 120, .sp .u64 116 4096 []], .bool (.lit true), [.cells [.ptr 1 0, .int .i64 (.lit 34), .int .i64 (.lit 0), .int .i64 (.lit 0), .int .u64 (.lit 0), .int .u64 (.lit 0), .bool (.lit false), .int .i64 (.lit 0)] 120, .sp .u64 116 4096 []]⟩
set_option maxRecDepth 1000000 in
theorem klNl2 : runL [lNl1, lTAx] lNl2 := by intro cs; kernel_rfl
theorem hlNl2 : (lit lNl2).Holds objs Try.prog := lit_holds (callable _ Try.func20 (by kernel_rfl) (by kernel_rfl)) (all_cons hlNl1 (all_cons hlTAx all_nil)) klNl2
def lNl3 : Lit := ⟨21, [.nilp], [], .int .i64 (.lit 1), []⟩
set_option maxRecDepth 1000000 in
theorem klNl3 : runL [lTAx] lNl3 := by intro cs; kernel_rfl
theorem hlNl3 : (lit lNl3).Holds objs Try.prog := lit_holds (callable _ Try.func21 (by kernel_rfl) (by kernel_rfl)) (all_cons hlTAx all_nil) klNl3
def lNl4 : Lit := ⟨22, [.nilp], [], .int .u64 (.lit 0), []⟩
set_option maxRecDepth 1000000 in
theorem klNl4 : runL [lTAx] lNl4 := by intro cs; kernel_rfl
theorem hlNl4 : (lit lNl4).Holds objs Try.prog := lit_holds (callable _ Try.func22 (by kernel_rfl) (by kernel_rfl)) (all_cons hlTAx all_nil) klNl4
def lNl5 : Lit := ⟨68, [.ptr 0 0], [.cells [.bool (.lit false), .int .u64 (.lit 0), .nilf, .nilf, .nilf, .nilf, .int .i64 (.lit 0), .int .i64 (.lit 0)] 46], .bool (.lit true), [.cells [.bool (.lit false), .int .u64 (.lit 0), .nilf, .nilf, .nilf, .nilf, .int .i64 (.lit 0), .int .i64 (.lit 0)] 46]⟩
set_option maxRecDepth 1000000 in
theorem klNl5 : runL [lTAx] lNl5 := by intro cs; kernel_rfl
theorem hlNl5 : (lit lNl5).Holds objs Try.prog := lit_holds (callable _ Try.func68 (by kernel_rfl) (by kernel_rfl)) (all_cons hlTAx all_nil) klNl5
def lNl6 : Lit := ⟨20, [.ptr 0 0, .ptr 1 0], [.cells [.bool (.lit false), .int .u64 (.lit 0), .nilf, .nilf, .nilf, .nilf, .int .i64 (.lit 0), .int .i64 (.lit 0)] 46, .cells [.ptr 2 0, .int .i64 (.lit 34), .int .i64 (.lit 0), .int .i64 (.lit 0), .int .u64 (.lit 0), .int .u64 (.lit 0), .bool (.lit false), .int .i64 (.lit 0)] 120, .sp .u64 116 4096 []], .bool (.lit true), [.cells [.bool (.lit false), .int .u64 (.lit 0), .nilf, .nilf, .nilf, .nilf, .int .i64 (.lit 0), .int .i64 (.lit 0)] 46, .cells [.ptr 2 0, .int .i64 (.lit 34), .int .i64 (.lit 0), .int .i64 (.lit 0), .int .u64 (.lit 0), .int .u64 (.lit 0), .bool (.lit false), .int .i64 (.lit 0)] 120, .sp .u64 116 4096 []]⟩
set_option maxRecDepth 1000000 in
theorem klNl6 : runL [lNl5, lTAx] lNl6 := by intro cs; kernel_rfl
theorem hlNl6 : (lit lNl6).Holds objs Try.prog := lit_holds (callable _ Try.func20 (by kernel_rfl) (by kernel_rfl)) (all_cons hlNl5 (all_cons hlTAx all_nil)) klNl6
def lNl7 : Lit := ⟨21, [.ptr 0 0], [.cells [.bool (.lit false), .int .u64 (.lit 0), .nilf, .nilf, .nilf, .nilf, .int .i64 (.lit 0), .int .i64 (.lit 0)] 46], .int .i64 (.lit 1), [.cells [.bool (.lit false), .int .u64 (.lit 0), .nilf, .nilf, .nilf, .nilf, .int .i64 (.lit 0), .int .i64 (.lit 0)] 46]⟩
set_option maxRecDepth 1000000 in
theorem klNl7 : runL [lTAx] lNl7 := by intro cs; kernel_rfl
theorem hlNl7 : (lit lNl7).Holds objs Try.prog := lit_holds (callable _ Try.func21 (by kernel_rfl) (by kernel_rfl)) (all_cons hlTAx all_nil) klNl7
def lNl8 : Lit := ⟨22, [.ptr 0 0], [.cells [.bool (.lit false), .int .u64 (.lit 0), .nilf, .nilf, .nilf, .nilf, .int .i64 (.lit 0), .int .i64 (.lit 0)] 46], .int .u64 (.lit 0), [.cells [.bool (.lit false), .int .u64 (.lit 0), .nilf, .nilf, .nilf, .nilf, .int .i64 (.lit 0), .int .i64 (.lit 0)] 46]⟩
set_option maxRecDepth 1000000 in
theorem klNl8 : runL [lTAx] lNl8 := by intro cs; kernel_rfl
theorem hlNl8 : (lit lNl8).Holds objs Try.prog := lit_holds (callable _ Try.func22 (by kernel_rfl) (by kernel_rfl)) (all_cons hlTAx all_nil) klNl8
def lNl9 : Lit := ⟨23, [], [], .agg [.int .i64 (.lit 16), .int .i64 (.lit 14), .int .i64 (.lit 2), .int .i64 (.lit 0), .int .i64 (.lit 1), .int .i64 (.lit 3), .int .i64 (.lit 4), .int .i64 (.lit 7), .int .i64 (.lit 9), .int .i64 (.lit 8), .int .i64 (.lit 9), .int .i64 (.lit 2), .int .i64 (.lit 11)], []⟩
set_option maxRecDepth 1000000 in
theorem klNl9 : runL [lTAx] lNl9 := by intro cs; kernel_rfl
theorem hlNl9 : (lit lNl9).Holds objs Try.prog := lit_holds (callable _ Try.func23 (by kernel_rfl) (by kernel_rfl)) (all_cons hlTAx all_nil) klNl9
def lNl10 : Lit := ⟨61, [.agg [.int .i64 (.lit 16), .int .i64 (.lit 14), .int .i64 (.lit 2), .int .i64 (.lit 0), .int .i64 (.lit 1), .int .i64 (.lit 3), .int .i64 (.lit 4), .int .i64 (.lit 7), .int .i64 (.lit 9), .int .i64 (.lit 8), .int .i64 (.lit 9), .int .i64 (.lit 2), .int .i64 (.lit 11)]], [], .bool (.lit true), []⟩
set_option maxRecDepth 1000000 in
theorem klNl10 : runL [lTAx] lNl10 := by intro cs; kernel_rfl
theorem hlNl10 : (lit lNl10).Holds objs Try.prog := lit_holds (callable _ Try.func61 (by kernel_rfl) (by kernel_rfl)) (all_cons hlTAx all_nil) klNl10
def lNl11 : Lit := ⟨76, [.int .u64 (.lit 65544)], [], .bool (.lit false), []⟩
set_option maxRecDepth 1000000 in
theorem klNl11 : runL [lTAx] lNl11 := by intro cs; kernel_rfl
theorem hlNl11 : (lit lNl11).Holds objs Try.prog := lit_holds (callable _ Try.func76 (by kernel_rfl) (by kernel_rfl)) (all_cons hlTAx all_nil) klNl11
def lNl12 : Lit := ⟨92, [.int .u64 (.lit 65544)], [], .tuple [.agg [.int .i64 (.lit 7), .int .i64 (.lit 1), .bool (.lit false)], .int .i64 (.lit 0)], []⟩
set_option maxRecDepth 1000000 in
theorem klNl12 : runL [lNl11, lTAx] lNl12 := by intro cs; kernel_rfl
theorem hlNl12 : (lit lNl12).Holds objs Try.prog := lit_holds (callable _ Try.func92 (by kernel_rfl) (by kernel_rfl)) (all_cons hlNl11 (all_cons hlTAx all_nil)) klNl12
def lNl13 : Lit := ⟨61, [.agg [.int .i64 (.lit 16), .int .i64 (.lit 14), .int .i64 (.lit 9), .int .i64 (.lit 0), .int .i64 (.lit 1), .int .i64 (.lit 3), .int .i64 (.lit 4), .int .i64 (.lit 7), .int .i64 (.lit 9), .int .i64 (.lit 8), .int .i64 (.lit 9), .int .i64 (.lit 2), .int .i64 (.lit 11)]], [], .bool (.lit false), []⟩
set_option maxRecDepth 1000000 in
theorem klNl13 : runL [lTAx] lNl13 := by intro cs; kernel_rfl
theorem hlNl13 : (lit lNl13).Holds objs Try.prog := lit_holds (callable _ Try.func61 (by kernel_rfl) (by kernel_rfl)) (all_cons hlTAx all_nil) klNl13
def lNl14 : Lit := ⟨62, [.agg [.int .i64 (.lit 16), .int .i64 (.lit 14), .int .i64 (.lit 2), .int .i64 (.lit 0), .int .i64 (.lit 1), .int .i64 (.lit 3), .int .i64 (.lit 4), .int .i64 (.lit 7), .int .i64 (.lit 9), .int .i64 (.lit 8), .int .i64 (.lit 9), .int .i64 (.lit 2), .int .i64 (.lit 11)]], [], .agg [.int .i64 (.lit 16), .int .i64 (.lit 3), .int .i64 (.lit 2)], []⟩
set_option maxRecDepth 1000000 in
theorem klNl14 : runL [lTAx] lNl14 := by intro cs; kernel_rfl
theorem hlNl14 : (lit lNl14).Holds objs Try.prog := lit_holds (callable _ Try.func62 (by kernel_rfl) (by kernel_rfl)) (all_cons hlTAx all_nil) klNl14
def lNl15 : Lit := ⟨66, [.agg [.int .i64 (.lit 16), .int .i64 (.lit 3), .int .i64 (.lit 2)], .int .i64 (.lit 1), .int .i64 (.lit 0)], [], .int .i64 (.lit 22), []⟩
set_option maxRecDepth 1000000 in
theorem klNl15 : runL [lTAx] lNl15 := by intro cs; kernel_rfl
theorem hlNl15 : (lit lNl15).Holds objs Try.prog := lit_holds (callable _ Try.func66 (by kernel_rfl) (by kernel_rfl)) (all_cons hlTAx all_nil) klNl15
def lNl16 : Lit := ⟨14, [.agg [.int .i64 (.lit 16), .int .i64 (.lit 14), .int .i64 (.lit 2), .int .i64 (.lit 0), .int .i64 (.lit 1), .int .i64 (.lit 3), .int .i64 (.lit 4), .int .i64 (.lit 7), .int .i64 (.lit 9), .int .i64 (.lit 8), .int .i64 (.lit 9), .int .i64 (.lit 2), .int .i64 (.lit 11)], .int .i64 (.lit 1), .int .i64 (.lit 0)], [], .int .i64 (.lit 22), []⟩
set_option maxRecDepth 1000000 in
theorem klNl16 : runL [lNl10, lNl14, lNl15, lTAx] lNl16 := by intro cs; kernel_rfl
theorem hlNl16 : (lit lNl16).Holds objs Try.prog := lit_holds (callable _ Try.func14 (by kernel_rfl) (by kernel_rfl)) (all_cons hlNl10 (all_cons hlNl14 (all_cons hlNl15 (all_cons hlTAx all_nil)))) klNl16
def lNl17 : Lit := ⟨74, [.nils, .int .i64 (.lit 22)], [], .int .u64 (.lit 0), []⟩
set_option maxRecDepth 1000000 in
theorem klNl17 : runL [lTAx] lNl17 := by intro cs; kernel_rfl
theorem hlNl17 : (lit lNl17).Holds objs Try.prog := lit_holds (callable _ Try.func74 (by kernel_rfl) (by kernel_rfl)) (all_cons hlTAx all_nil) klNl17
def lNl18 : Lit := ⟨73, [.int .i64 (.lit 0), .ptr 0 0, .ptr 1 0, .ptr 2 0], [.cells [.nils] 124, .cells [.int .i64 (.lit 16), .int .i64 (.lit 14), .int .i64 (.lit 2), .int .i64 (.lit 0), .int .i64 (.lit 1), .int .i64 (.lit 3), .int .i64 (.lit 4), .int .i64 (.lit 7), .int .i64 (.lit 9), .int .i64 (.lit 8), .int .i64 (.lit 9), .int .i64 (.lit 2), .int .i64 (.lit 11)] 31, .cells [.int .i64 (.lit 1)] 3], .int .u64 (.lit 0), [.cells [.nils] 124, .cells [.int .i64 (.lit 16), .int .i64 (.lit 14), .int .i64 (.lit 2), .int .i64 (.lit 0), .int .i64 (.lit 1), .int .i64 (.lit 3), .int .i64 (.lit 4), .int .i64 (.lit 7), .int .i64 (.lit 9), .int .i64 (.lit 8), .int .i64 (.lit 9), .int .i64 (.lit 2), .int .i64 (.lit 11)] 31, .cells [.int .i64 (.lit 1)] 3]⟩
set_option maxRecDepth 1000000 in
theorem klNl18 : runL [lNl16, lNl17, lTAx] lNl18 := by intro cs; kernel_rfl
theorem hlNl18 : (lit lNl18).Holds objs Try.prog := lit_holds (callable _ Try.func73 (by kernel_rfl) (by kernel_rfl)) (all_cons hlNl16 (all_cons hlNl17 (all_cons hlTAx all_nil))) klNl18
def lNl19 : Lit := ⟨66, [.agg [.int .i64 (.lit 16), .int .i64 (.lit 3), .int .i64 (.lit 2)], .int .i64 (.lit 1), .int .i64 (.lit 1)], [], .int .i64 (.lit 23), []⟩
set_option maxRecDepth 1000000 in
theorem klNl19 : runL [lTAx] lNl19 := by intro cs; kernel_rfl
theorem hlNl19 : (lit lNl19).Holds objs Try.prog := lit_holds (callable _ Try.func66 (by kernel_rfl) (by kernel_rfl)) (all_cons hlTAx all_nil) klNl19
def lNl20 : Lit := ⟨14, [.agg [.int .i64 (.lit 16), .int .i64 (.lit 14), .int .i64 (.lit 2), .int .i64 (.lit 0), .int .i64 (.lit 1), .int .i64 (.lit 3), .int .i64 (.lit 4), .int .i64 (.lit 7), .int .i64 (.lit 9), .int .i64 (.lit 8), .int .i64 (.lit 9), .int .i64 (.lit 2), .int .i64 (.lit 11)], .int .i64 (.lit 1), .int .i64 (.lit 1)], [], .int .i64 (.lit 23), []⟩
set_option maxRecDepth 1000000 in
theorem klNl20 : runL [lNl10, lNl14, lNl19, lTAx] lNl20 := by intro cs; kernel_rfl
theorem hlNl20 : (lit lNl20).Holds objs Try.prog := lit_holds (callable _ Try.func14 (by kernel_rfl) (by kernel_rfl)) (all_cons hlNl10 (all_cons hlNl14 (all_cons hlNl19 (all_cons hlTAx all_nil)))) klNl20
def lNl21 : Lit := ⟨74, [.nils, .int .i64 (.lit 23)], [], .int .u64 (.lit 0), []⟩
set_option maxRecDepth 1000000 in
theorem klNl21 : runL [lTAx] lNl21 := by intro cs; kernel_rfl
theorem hlNl21 : (lit lNl21).Holds objs Try.prog := lit_holds (callable _ Try.func74 (by kernel_rfl) (by kernel_rfl)) (all_cons hlTAx all_nil) klNl21
def lNl22 : Lit := ⟨73, [.int .i64 (.lit 1), .ptr 0 0, .ptr 1 0, .ptr 2 0], [.cells [.nils] 124, .cells [.int .i64 (.lit 16), .int .i64 (.lit 14), .int .i64 (.lit 2), .int .i64 (.lit 0), .int .i64 (.lit 1), .int .i64 (.lit 3), .int .i64 (.lit 4), .int .i64 (.lit 7), .int .i64 (.lit 9), .int .i64 (.lit 8), .int .i64 (.lit 9), .int .i64 (.lit 2), .int .i64 (.lit 11)] 31, .cells [.int .i64 (.lit 1)] 3], .int .u64 (.lit 0), [.cells [.nils] 124, .cells [.int .i64 (.lit 16), .int .i64 (.lit 14), .int .i64 (.lit 2), .int .i64 (.lit 0), .int .i64 (.lit 1), .int .i64 (.lit 3), .int .i64 (.lit 4), .int .i64 (.lit 7), .int .i64 (.lit 9), .int .i64 (.lit 8), .int .i64 (.lit 9), .int .i64 (.lit 2), .int .i64 (.lit 11)] 31, .cells [.int .i64 (.lit 1)] 3]⟩
set_option maxRecDepth 1000000 in
theorem klNl22 : runL [lNl20, lNl21, lTAx] lNl22 := by intro cs; kernel_rfl
theorem hlNl22 : (lit lNl22).Holds objs Try.prog := lit_holds (callable _ Try.func73 (by kernel_rfl) (by kernel_rfl)) (all_cons hlNl20 (all_cons hlNl21 (all_cons hlTAx all_nil))) klNl22
def lNl23 : Lit := ⟨66, [.agg [.int .i64 (.lit 16), .int .i64 (.lit 3), .int .i64 (.lit 2)], .int .i64 (.lit 1), .int .i64 (.lit 2)], [], .int .i64 (.lit 24), []⟩
set_option maxRecDepth 1000000 in
theorem klNl23 : runL [lTAx] lNl23 := by intro cs; kernel_rfl
theorem hlNl23 : (lit lNl23).Holds objs Try.prog := lit_holds (callable _ Try.func66 (by kernel_rfl) (by kernel_rfl)) (all_cons hlTAx all_nil) klNl23
def lNl24 : Lit := ⟨14, [.agg [.int .i64 (.lit 16), .int .i64 (.lit 14), .int .i64 (.lit 2), .int .i64 (.lit 0), .int .i64 (.lit 1), .int .i64 (.lit 3), .int .i64 (.lit 4), .int .i64 (.lit 7), .int .i64 (.lit 9), .int .i64 (.lit 8), .int .i64 (.lit 9), .int .i64 (.lit 2), .int .i64 (.lit 11)], .int .i64 (.lit 1), .int .i64 (.lit 2)], [], .int .i64 (.lit 24), []⟩
set_option maxRecDepth 1000000 in
theorem klNl24 : runL [lNl10, lNl14, lNl23, lTAx] lNl24 := by intro cs; kernel_rfl
theorem hlNl24 : (lit lNl24).Holds objs Try.prog := lit_holds (callable _ Try.func14 (by kernel_rfl) (by kernel_rfl)) (all_cons hlNl10 (all_cons hlNl14 (all_cons hlNl23 (all_cons hlTAx all_nil)))) klNl24
def lNl25 : Lit := ⟨74, [.nils, .int .i64 (.lit 24)], [], .int .u64 (.lit 0), []⟩
set_option maxRecDepth 1000000 in
theorem klNl25 : runL [lTAx] lNl25 := by intro cs; kernel_rfl
theorem hlNl25 : (lit lNl25).Holds objs Try.prog := lit_holds (callable _ Try.func74 (by kernel_rfl) (by kernel_rfl)) (all_cons hlTAx all_nil) klNl25
def lNl26 : Lit := ⟨73, [.int .i64 (.lit 2), .ptr 0 0, .ptr 1 0, .ptr 2 0], [.cells [.nils] 124, .cells [.int .i64 (.lit 16), .int .i64 (.lit 14), .int .i64 (.lit 2), .int .i64 (.lit 0), .int .i64 (.lit 1), .int .i64 (.lit 3), .int .i64 (.lit 4), .int .i64 (.lit 7), .int .i64 (.lit 9), .int .i64 (.lit 8), .int .i64 (.lit 9), .int .i64 (.lit 2), .int .i64 (.lit 11)] 31, .cells [.int .i64 (.lit 1)] 3], .int .u64 (.lit 0), [.cells [.nils] 124, .cells [.int .i64 (.lit 16), .int .i64 (.lit 14), .int .i64 (.lit 2), .int .i64 (.lit 0), .int .i64 (.lit 1), .int .i64 (.lit 3), .int .i64 (.lit 4), .int .i64 (.lit 7), .int .i64 (.lit 9), .int .i64 (.lit 8), .int .i64 (.lit 9), .int .i64 (.lit 2), .int .i64 (.lit 11)] 31, .cells [.int .i64 (.lit 1)] 3]⟩
set_option maxRecDepth 1000000 in
theorem klNl26 : runL [lNl24, lNl25, lTAx] lNl26 := by intro cs; kernel_rfl
theorem hlNl26 : (lit lNl26).Holds objs Try.prog := lit_holds (callable _ Try.func73 (by kernel_rfl) (by kernel_rfl)) (all_cons hlNl24 (all_cons hlNl25 (all_cons hlTAx all_nil))) klNl26
def lNl27 : Lit := ⟨66, [.agg [.int .i64 (.lit 16), .int .i64 (.lit 3), .int .i64 (.lit 2)], .int .i64 (.lit 1), .int .i64 (.lit 3)], [], .int .i64 (.lit 25), []⟩
set_option maxRecDepth 1000000 in
theorem klNl27 : runL [lTAx] lNl27 := by intro cs; kernel_rfl
theorem hlNl27 : (lit lNl27).Holds objs Try.prog := lit_holds (callable _ Try.func66 (by kernel_rfl) (by kernel_rfl)) (all_cons hlTAx all_nil) klNl27
def lNl28 : Lit := ⟨14, [.agg [.int .i64 (.lit 16), .int .i64 (.lit 14), .int .i64 (.lit 2), .int .i64 (.lit 0), .int .i64 (.lit 1), .int .i64 (.lit 3), .int .i64 (.lit 4), .int .i64 (.lit 7), .int .i64 (.lit 9), .int .i64 (.lit 8), .int .i64 (.lit 9), .int .i64 (.lit 2), .int .i64 (.lit 11)], .int .i64 (.lit 1), .int .i64 (.lit 3)], [], .int .i64 (.lit 25), []⟩
set_option maxRecDepth 1000000 in
theorem klNl28 : runL [lNl10, lNl14, lNl27, lTAx] lNl28 := by intro cs; kernel_rfl
theorem hlNl28 : (lit lNl28).Holds objs Try.prog := lit_holds (callable _ Try.func14 (by kernel_rfl) (by kernel_rfl)) (all_cons hlNl10 (all_cons hlNl14 (all_cons hlNl27 (all_cons hlTAx all_nil)))) klNl28
def lNl29 : Lit := ⟨74, [.nils, .int .i64 (.lit 25)], [], .int .u64 (.lit 0), []⟩
set_option maxRecDepth 1000000 in
theorem klNl29 : runL [lTAx] lNl29 := by intro cs; kernel_rfl
theorem hlNl29 : (lit lNl29).Holds objs Try.prog := lit_holds (callable _ Try.func74 (by kernel_rfl) (by kernel_rfl)) (all_cons hlTAx all_nil) klNl29
def lNl30 : Lit := ⟨73, [.int .i64 (.lit 3), .ptr 0 0, .ptr 1 0, .ptr 2 0], [.cells [.nils] 124, .cells [.int .i64 (.lit 16), .int .i64 (.lit 14), .int .i64 (.lit 2), .int .i64 (.lit 0), .int .i64 (.lit 1), .int .i64 (.lit 3), .int .i64 (.lit 4), .int .i64 (.lit 7), .int .i64 (.lit 9), .int .i64 (.lit 8), .int .i64 (.lit 9), .int .i64 (.lit 2), .int .i64 (.lit 11)] 31, .cells [.int .i64 (.lit 1)] 3], .int .u64 (.lit 0), [.cells [.nils] 124, .cells [.int .i64 (.lit 16), .int .i64 (.lit 14), .int .i64 (.lit 2), .int .i64 (.lit 0), .int .i64 (.lit 1), .int .i64 (.lit 3), .int .i64 (.lit 4), .int .i64 (.lit 7), .int .i64 (.lit 9), .int .i64 (.lit 8), .int .i64 (.lit 9), .int .i64 (.lit 2), .int .i64 (.lit 11)] 31, .cells [.int .i64 (.lit 1)] 3]⟩
set_option maxRecDepth 1000000 in
theorem klNl30 : runL [lNl28, lNl29, lTAx] lNl30 := by intro cs; kernel_rfl
theorem hlNl30 : (lit lNl30).Holds objs Try.prog := lit_holds (callable _ Try.func73 (by kernel_rfl) (by kernel_rfl)) (all_cons hlNl28 (all_cons hlNl29 (all_cons hlTAx all_nil))) klNl30
def lNl31 : Lit := ⟨66, [.agg [.int .i64 (.lit 16), .int .i64 (.lit 3), .int .i64 (.lit 2)], .int .i64 (.lit 1), .int .i64 (.lit 4)], [], .int .i64 (.lit 26), []⟩
set_option maxRecDepth 1000000 in
theorem klNl31 : runL [lTAx] lNl31 := by intro cs; kernel_rfl
theorem hlNl31 : (lit lNl31).Holds objs Try.prog := lit_holds (callable _ Try.func66 (by kernel_rfl) (by kernel_rfl)) (all_cons hlTAx all_nil) klNl31
def lNl32 : Lit := ⟨14, [.agg [.int .i64 (.lit 16), .int .i64 (.lit 14), .int .i64 (.lit 2), .int .i64 (.lit 0), .int .i64 (.lit 1), .int .i64 (.lit 3), .int .i64 (.lit 4), .int .i64 (.lit 7), .int .i64 (.lit 9), .int .i64 (.lit 8), .int .i64 (.lit 9), .int .i64 (.lit 2), .int .i64 (.lit 11)], .int .i64 (.lit 1), .int .i64 (.lit 4)], [], .int .i64 (.lit 26), []⟩
set_option maxRecDepth 1000000 in
theorem klNl32 : runL [lNl10, lNl14, lNl31, lTAx] lNl32 := by intro cs; kernel_rfl
theorem hlNl32 : (lit lNl32).Holds objs Try.prog := lit_holds (callable _ Try.func14 (by kernel_rfl) (by kernel_rfl)) (all_cons hlNl10 (all_cons hlNl14 (all_cons hlNl31 (all_cons hlTAx all_nil)))) klNl32
def lNl33 : Lit := ⟨74, [.nils, .int .i64 (.lit 26)], [], .int .u64 (.lit 0), []⟩
set_option maxRecDepth 1000000 in
theorem klNl33 : runL [lTAx] lNl33 := by intro cs; kernel_rfl
theorem hlNl33 : (lit lNl33).Holds objs Try.prog := lit_holds (callable _ Try.func74 (by kernel_rfl) (by kernel_rfl)) (all_cons hlTAx all_nil) klNl33
def lNl34 : Lit := ⟨73, [.int .i64 (.lit 4), .ptr 0 0, .ptr 1 0, .ptr 2 0], [.cells [.nils] 124, .cells [.int .i64 (.lit 16), .int .i64 (.lit 14), .int .i64 (.lit 2), .int .i64 (.lit 0), .int .i64 (.lit 1), .int .i64 (.lit 3), .int .i64 (.lit 4), .int .i64 (.lit 7), .int .i64 (.lit 9), .int .i64 (.lit 8), .int .i64 (.lit 9), .int .i64 (.lit 2), .int .i64 (.lit 11)] 31, .cells [.int .i64 (.lit 1)] 3], .int .u64 (.lit 0), [.cells [.nils] 124, .cells [.int .i64 (.lit 16), .int .i64 (.lit 14), .int .i64 (.lit 2), .int .i64 (.lit 0), .int .i64 (.lit 1), .int .i64 (.lit 3), .int .i64 (.lit 4), .int .i64 (.lit 7), .int .i64 (.lit 9), .int .i64 (.lit 8), .int .i64 (.lit 9), .int .i64 (.lit 2), .int .i64 (.lit 11)] 31, .cells [.int .i64 (.lit 1)] 3]⟩
set_option maxRecDepth 1000000 in
theorem klNl34 : runL [lNl32, lNl33, lTAx] lNl34 := by intro cs; kernel_rfl
theorem hlNl34 : (lit lNl34).Holds objs Try.prog := lit_holds (callable _ Try.func73 (by kernel_rfl) (by kernel_rfl)) (all_cons hlNl32 (all_cons hlNl33 (all_cons hlTAx all_nil))) klNl34
def lNl35 : Lit := ⟨66, [.agg [.int .i64 (.lit 16), .int .i64 (.lit 3), .int .i64 (.lit 2)], .int .i64 (.lit 1), .int .i64 (.lit 5)], [], .int .i64 (.lit 27), []⟩
set_option maxRecDepth 1000000 in
theorem klNl35 : runL [lTAx] lNl35 := by intro cs; kernel_rfl
theorem hlNl35 : (lit lNl35).Holds objs Try.prog := lit_holds (callable _ Try.func66 (by kernel_rfl) (by kernel_rfl)) (all_cons hlTAx all_nil) klNl35
def lNl36 : Lit := ⟨14, [.agg [.int .i64 (.lit 16), .int .i64 (.lit 14), .int .i64 (.lit 2), .int .i64 (.lit 0), .int .i64 (.lit 1), .int .i64 (.lit 3), .int .i64 (.lit 4), .int .i64 (.lit 7), .int .i64 (.lit 9), .int .i64 (.lit 8), .int .i64 (.lit 9), .int .i64 (.lit 2), .int .i64 (.lit 11)], .int .i64 (.lit 1), .int .i64 (.lit 5)], [], .int .i64 (.lit 27), []⟩
set_option maxRecDepth 1000000 in
theorem klNl36 : runL [lNl10, lNl14, lNl35, lTAx] lNl36 := by intro cs; kernel_rfl
theorem hlNl36 : (lit lNl36).Holds objs Try.prog := lit_holds (callable _ Try.func14 (by kernel_rfl) (by kernel_rfl)) (all_cons hlNl10 (all_cons hlNl14 (all_cons hlNl35 (all_cons hlTAx all_nil)))) klNl36
def lNl37 : Lit := ⟨74, [.nils, .int .i64 (.lit 27)], [], .int .u64 (.lit 0), []⟩
set_option maxRecDepth 1000000 in
theorem klNl37 : runL [lTAx] lNl37 := by intro cs; kernel_rfl
theorem hlNl37 : (lit lNl37).Holds objs Try.prog := lit_holds (callable _ Try.func74 (by kernel_rfl) (by kernel_rfl)) (all_cons hlTAx all_nil) klNl37
def lNl38 : Lit := ⟨73, [.int .i64 (.lit 5), .ptr 0 0, .ptr 1 0, .ptr 2 0], [.cells [.nils] 124, .cells [.int .i64 (.lit 16), .int .i64 (.lit 14), .int .i64 (.lit 2), .int .i64 (.lit 0), .int .i64 (.lit 1), .int .i64 (.lit 3), .int .i64 (.lit 4), .int .i64 (.lit 7), .int .i64 (.lit 9), .int .i64 (.lit 8), .int .i64 (.lit 9), .int .i64 (.lit 2), .int .i64 (.lit 11)] 31, .cells [.int .i64 (.lit 1)] 3], .int .u64 (.lit 0), [.cells [.nils] 124, .cells [.int .i64 (.lit 16), .int .i64 (.lit 14), .int .i64 (.lit 2), .int .i64 (.lit 0), .int .i64 (.lit 1), .int .i64 (.lit 3), .int .i64 (.lit 4), .int .i64 (.lit 7), .int .i64 (.lit 9), .int .i64 (.lit 8), .int .i64 (.lit 9), .int .i64 (.lit 2), .int .i64 (.lit 11)] 31, .cells [.int .i64 (.lit 1)] 3]⟩
set_option maxRecDepth 1000000 in
theorem klNl38 : runL [lNl36, lNl37, lTAx] lNl38 := by intro cs; kernel_rfl
theorem hlNl38 : (lit lNl38).Holds objs Try.prog := lit_holds (callable _ Try.func73 (by kernel_rfl) (by kernel_rfl)) (all_cons hlNl36 (all_cons hlNl37 (all_cons hlTAx all_nil))) klNl38
def lNl39 : Lit := ⟨68, [.ptr 0 0], [.cells [.bool (.lit true), .int .u64 (.lit 65544), .nilf, .nilf, .nilf, .nilf, .int .i64 (.lit 4), .int .i64 (.lit 3)] 46], .bool (.lit true), [.cells [.bool (.lit true), .int .u64 (.lit 65544), .nilf, .nilf, .nilf, .nilf, .int .i64 (.lit 4), .int .i64 (.lit 3)] 46]⟩
set_option maxRecDepth 1000000 in
theorem klNl39 : runL [lTAx] lNl39 := by intro cs; kernel_rfl
theorem hlNl39 : (lit lNl39).Holds objs Try.prog := lit_holds (callable _ Try.func68 (by kernel_rfl) (by kernel_rfl)) (all_cons hlTAx all_nil) klNl39
end Go.Proofs.Ytbmbiiiacajolaa
