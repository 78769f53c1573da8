/- Calls of a run whose numbers are all known, as a program of ours printed them. -/
import Derived.Test.YtdabdbbgaekmdaaLt
import Derived.Test.YtdabdbbgaekmdaaJb
namespace Go.Proofs.Ytdabdbbgaekmdaa
set_option linter.unusedVariables false
set_option linter.unusedSimpArgs false
set_option linter.unusedSectionVars false
open Go Go.RowKit

def lJl0 : Lit := ⟨13, [.int .i64 (.lit 9)], [], .tuple [.ptr 0 0, .int .i64 (.lit 0)], [.cells [.ptr 1 0, .int .i64 (.lit 9), .int .i64 (.lit 0), .int .i64 (.lit 0), .int .u64 (.lit 0), .int .u64 (.lit 0), .bool (.lit false), .int .i64 (.lit 0)] 150, .sp .u64 148 4096 []]⟩
set_option maxRecDepth 1000000 in
theorem klJl0 : runL [lJb] lJl0 := by intro cs; kernel_rfl
theorem hlJl0 : (lit lJl0).Holds objs Try.prog := lit_holds (callable _ Try.func13 (by kernel_rfl) (by kernel_rfl)) (all_cons hlJb all_nil) klJl0
def lJl1 : Lit := ⟨49, [.nilp], [], .tuple [.int .i64 (.lit 0), .int .i64 (.lit 1)], []⟩
set_option maxRecDepth 1000000 in
theorem klJl1 : runL [lJb] lJl1 := by intro cs; kernel_rfl
theorem hlJl1 : (lit lJl1).Holds objs Try.prog := lit_holds (callable _ Try.func49 (by kernel_rfl) (by kernel_rfl)) (all_cons hlJb all_nil) klJl1
def lJl2 : Lit := ⟨50, [.nilp], [], .tuple [.int .u64 (.lit 0), .int .i64 (.lit 1)], []⟩
set_option maxRecDepth 1000000 in
theorem klJl2 : runL [lJb] lJl2 := by intro cs; kernel_rfl
theorem hlJl2 : (lit lJl2).Holds objs Try.prog := lit_holds (callable _ Try.func50 (by kernel_rfl) (by kernel_rfl)) (all_cons hlJb all_nil) klJl2
def lJl3 : Lit := ⟨51, [.nilp, .ptr 0 0], [.cells [.ptr 1 0, .int .i64 (.lit 9), .int .i64 (.lit 0), .int .i64 (.lit 0), .int .u64 (.lit 0), .int .u64 (.lit 0), .bool (.lit false), .int .i64 (.lit 0)] 150, .sp .u64 148 4096 []], .bool (.lit true), [.cells [.ptr 1 0, .int .i64 (.lit 9), .int .i64 (.lit 0), .int .i64 (.lit 0), .int .u64 (.lit 0), .int .u64 (.lit 0), .bool (.lit false), .int .i64 (.lit 0)] 150, .sp .u64 148 4096 []]⟩
set_option maxRecDepth 1000000 in
theorem klJl3 : runL [lJb] lJl3 := by intro cs; kernel_rfl
theorem hlJl3 : (lit lJl3).Holds objs Try.prog := lit_holds (callable _ Try.func51 (by kernel_rfl) (by kernel_rfl)) (all_cons hlJb all_nil) klJl3
def lJl4 : Lit := ⟨52, [.nilp, .ptr 0 0], [.cells [.ptr 1 0, .int .i64 (.lit 9), .int .i64 (.lit 0), .int .i64 (.lit 0), .int .u64 (.lit 0), .int .u64 (.lit 0), .bool (.lit false), .int .i64 (.lit 0)] 150, .sp .u64 148 4096 []], .bool (.lit true), [.cells [.ptr 1 0, .int .i64 (.lit 9), .int .i64 (.lit 0), .int .i64 (.lit 0), .int .u64 (.lit 0), .int .u64 (.lit 0), .bool (.lit false), .int .i64 (.lit 0)] 150, .sp .u64 148 4096 []]⟩
set_option maxRecDepth 1000000 in
theorem klJl4 : runL [lJb] lJl4 := by intro cs; kernel_rfl
theorem hlJl4 : (lit lJl4).Holds objs Try.prog := lit_holds (callable _ Try.func52 (by kernel_rfl) (by kernel_rfl)) (all_cons hlJb all_nil) klJl4
def lJl5 : Lit := ⟨53, [.nilp, .ptr 0 0], [.cells [.ptr 1 0, .int .i64 (.lit 9), .int .i64 (.lit 0), .int .i64 (.lit 0), .int .u64 (.lit 0), .int .u64 (.lit 0), .bool (.lit false), .int .i64 (.lit 0)] 150, .sp .u64 148 4096 []], .bool (.lit true), [.cells [.ptr 1 0, .int .i64 (.lit 9), .int .i64 (.lit 0), .int .i64 (.lit 0), .int .u64 (.lit 0), .int .u64 (.lit 0), .bool (.lit false), .int .i64 (.lit 0)] 150, .sp .u64 148 4096 []]⟩
set_option maxRecDepth 1000000 in
theorem klJl5 : runL [lJb] lJl5 := by intro cs; kernel_rfl
theorem hlJl5 : (lit lJl5).Holds objs Try.prog := lit_holds (callable _ Try.func53 (by kernel_rfl) (by kernel_rfl)) (all_cons hlJb all_nil) klJl5
def lJl6 : Lit := ⟨54, [.nilp, .ptr 0 0], [.cells [.ptr 1 0, .int .i64 (.lit 9), .int .i64 (.lit 0), .int .i64 (.lit 0), .int .u64 (.lit 0), .int .u64 (.lit 0), .bool (.lit false), .int .i64 (.lit 0)] 150, .sp .u64 148 4096 []], .bool (.lit true), [.cells [.ptr 1 0, .int .i64 (.lit 9), .int .i64 (.lit 0), .int .i64 (.lit 0), .int .u64 (.lit 0), .int .u64 (.lit 0), .bool (.lit false), .int .i64 (.lit 0)] 150, .sp .u64 148 4096 []]⟩
set_option maxRecDepth 1000000 in
theorem klJl6 : runL [lJb] lJl6 := by intro cs; kernel_rfl
theorem hlJl6 : (lit lJl6).Holds objs Try.prog := lit_holds (callable _ Try.func54 (by kernel_rfl) (by kernel_rfl)) (all_cons hlJb all_nil) klJl6
def lJl7 : Lit := ⟨55, [.nilp, .ptr 0 0], [.cells [.ptr 1 0, .int .i64 (.lit 9), .int .i64 (.lit 0), .int .i64 (.lit 0), .int .u64 (.lit 0), .int .u64 (.lit 0), .bool (.lit false), .int .i64 (.lit 0)] 150, .sp .u64 148 4096 []], .bool (.lit true), [.cells [.ptr 1 0, .int .i64 (.lit 9), .int .i64 (.lit 0), .int .i64 (.lit 0), .int .u64 (.lit 0), .int .u64 (.lit 0), .bool (.lit false), .int .i64 (.lit 0)] 150, .sp .u64 148 4096 []]⟩
set_option maxRecDepth 1000000 in
theorem klJl7 : runL [lJb] lJl7 := by intro cs; kernel_rfl
theorem hlJl7 : (lit lJl7).Holds objs Try.prog := lit_holds (callable _ Try.func55 (by kernel_rfl) (by kernel_rfl)) (all_cons hlJb all_nil) klJl7
def lJl8 : Lit := ⟨56, [.nilp], [], .int .i64 (.lit 1), []⟩
set_option maxRecDepth 1000000 in
theorem klJl8 : runL [lJb] lJl8 := by intro cs; kernel_rfl
theorem hlJl8 : (lit lJl8).Holds objs Try.prog := lit_holds (callable _ Try.func56 (by kernel_rfl) (by kernel_rfl)) (all_cons hlJb all_nil) klJl8
def lJl9 : Lit := ⟨57, [.nilp], [], .int .i64 (.lit 1), []⟩
set_option maxRecDepth 1000000 in
theorem klJl9 : runL [lJb] lJl9 := by intro cs; kernel_rfl
theorem hlJl9 : (lit lJl9).Holds objs Try.prog := lit_holds (callable _ Try.func57 (by kernel_rfl) (by kernel_rfl)) (all_cons hlJb all_nil) klJl9
def lJl10 : Lit := ⟨58, [.nilp], [], .int .i64 (.lit 1), []⟩
set_option maxRecDepth 1000000 in
theorem klJl10 : runL [lJb] lJl10 := by intro cs; kernel_rfl
theorem hlJl10 : (lit lJl10).Holds objs Try.prog := lit_holds (callable _ Try.func58 (by kernel_rfl) (by kernel_rfl)) (all_cons hlJb all_nil) klJl10
def lJl11 : Lit := ⟨103, [.ptr 0 0], [.cells [.int .i64 (.lit 0), .int .i64 (.lit 0), .int .i64 (.lit 0), .int .i64 (.lit 0), .int .i64 (.lit 0), .int .i64 (.lit 0), .int .u64 (.lit 0), .nilf, .nilf, .bool (.lit false), .int .i64 (.lit 0), .nilp] 110], .int .i64 (.lit 1), [.cells [.int .i64 (.lit 0), .int .i64 (.lit 0), .int .i64 (.lit 0), .int .i64 (.lit 0), .int .i64 (.lit 0), .int .i64 (.lit 0), .int .u64 (.lit 0), .nilf, .nilf, .bool (.lit false), .int .i64 (.lit 0), .nilp] 110]⟩
set_option maxRecDepth 1000000 in
theorem klJl11 : runL [lJb] lJl11 := by intro cs; kernel_rfl
theorem hlJl11 : (lit lJl11).Holds objs Try.prog := lit_holds (callable _ Try.func103 (by kernel_rfl) (by kernel_rfl)) (all_cons hlJb all_nil) klJl11
def lJl12 : Lit := ⟨49, [.ptr 0 0], [.cells [.int .i64 (.lit 0), .int .i64 (.lit 0), .int .i64 (.lit 0), .int .i64 (.lit 0), .int .i64 (.lit 0), .int .i64 (.lit 0), .int .u64 (.lit 0), .nilf, .nilf, .bool (.lit false), .int .i64 (.lit 0), .nilp] 110], .tuple [.int .i64 (.lit 0), .int .i64 (.lit 1)], [.cells [.int .i64 (.lit 0), .int .i64 (.lit 0), .int .i64 (.lit 0), .int .i64 (.lit 0), .int .i64 (.lit 0), .int .i64 (.lit 0), .int .u64 (.lit 0), .nilf, .nilf, .bool (.lit false), .int .i64 (.lit 0), .nilp] 110]⟩
set_option maxRecDepth 1000000 in
theorem klJl12 : runL [lJl11, lJb] lJl12 := by intro cs; kernel_rfl
theorem hlJl12 : (lit lJl12).Holds objs Try.prog := lit_holds (callable _ Try.func49 (by kernel_rfl) (by kernel_rfl)) (all_cons hlJl11 (all_cons hlJb all_nil)) klJl12
def lJl13 : Lit := ⟨103, [.ptr 0 0], [.cells [.int .i64 (.lit 0), .int .i64 (.lit 0), .int .i64 (.lit 0), .int .i64 (.lit 0), .int .i64 (.lit 0), .int .i64 (.lit 0), .int .u64 (.lit 0), .nilf, .nilf, .bool (.lit false), .int .i64 (.lit 0)] 127], .int .i64 (.lit 1), [.cells [.int .i64 (.lit 0), .int .i64 (.lit 0), .int .i64 (.lit 0), .int .i64 (.lit 0), .int .i64 (.lit 0), .int .i64 (.lit 0), .int .u64 (.lit 0), .nilf, .nilf, .bool (.lit false), .int .i64 (.lit 0)] 127]⟩
set_option maxRecDepth 1000000 in
theorem klJl13 : runL [lJb] lJl13 := by intro cs; kernel_rfl
theorem hlJl13 : (lit lJl13).Holds objs Try.prog := lit_holds (callable _ Try.func103 (by kernel_rfl) (by kernel_rfl)) (all_cons hlJb all_nil) klJl13
def lJl14 : Lit := ⟨50, [.ptr 0 0], [.cells [.int .i64 (.lit 0), .int .i64 (.lit 0), .int .i64 (.lit 0), .int .i64 (.lit 0), .int .i64 (.lit 0), .int .i64 (.lit 0), .int .u64 (.lit 0), .nilf, .nilf, .bool (.lit false), .int .i64 (.lit 0)] 127], .tuple [.int .u64 (.lit 0), .int .i64 (.lit 1)], [.cells [.int .i64 (.lit 0), .int .i64 (.lit 0), .int .i64 (.lit 0), .int .i64 (.lit 0), .int .i64 (.lit 0), .int .i64 (.lit 0), .int .u64 (.lit 0), .nilf, .nilf, .bool (.lit false), .int .i64 (.lit 0)] 127]⟩
set_option maxRecDepth 1000000 in
theorem klJl14 : runL [lJl13, lJb] lJl14 := by intro cs; kernel_rfl
theorem hlJl14 : (lit lJl14).Holds objs Try.prog := lit_holds (callable _ Try.func50 (by kernel_rfl) (by kernel_rfl)) (all_cons hlJl13 (all_cons hlJb all_nil)) klJl14
def lJl15 : Lit := ⟨104, [.ptr 0 0, .ptr 1 0], [.cells [.int .i64 (.lit 0), .int .i64 (.lit 0), .int .i64 (.lit 0), .int .i64 (.lit 0), .int .i64 (.lit 0), .int .i64 (.lit 0), .int .u64 (.lit 0), .nilf, .nilf, .bool (.lit false), .int .i64 (.lit 0), .nilp] 110, .cells [.ptr 2 0, .int .i64 (.lit 9), .int .i64 (.lit 0), .int .i64 (.lit 0), .int .u64 (.lit 0), .int .u64 (.lit 0), .bool (.lit false), .int .i64 (.lit 0)] 150, .sp .u64 148 4096 []], .bool (.lit true), [.cells [.int .i64 (.lit 0), .int .i64 (.lit 0), .int .i64 (.lit 0), .int .i64 (.lit 0), .int .i64 (.lit 0), .int .i64 (.lit 0), .int .u64 (.lit 0), .nilf, .nilf, .bool (.lit false), .int .i64 (.lit 0), .nilp] 110, .cells [.ptr 2 0, .int .i64 (.lit 9), .int .i64 (.lit 0), .int .i64 (.lit 0), .int .u64 (.lit 0), .int .u64 (.lit 0), .bool (.lit false), .int .i64 (.lit 0)] 150, .sp .u64 148 4096 []]⟩
set_option maxRecDepth 1000000 in
theorem klJl15 : runL [lJb] lJl15 := by intro cs; kernel_rfl
theorem hlJl15 : (lit lJl15).Holds objs Try.prog := lit_holds (callable _ Try.func104 (by kernel_rfl) (by kernel_rfl)) (all_cons hlJb all_nil) klJl15
def lJl16 : Lit := ⟨51, [.ptr 0 0, .ptr 1 0], [.cells [.int .i64 (.lit 0), .int .i64 (.lit 0), .int .i64 (.lit 0), .int .i64 (.lit 0), .int .i64 (.lit 0), .int .i64 (.lit 0), .int .u64 (.lit 0), .nilf, .nilf, .bool (.lit false), .int .i64 (.lit 0), .nilp] 110, .cells [.ptr 2 0, .int .i64 (.lit 9), .int .i64 (.lit 0), .int .i64 (.lit 0), .int .u64 (.lit 0), .int .u64 (.lit 0), .bool (.lit false), .int .i64 (.lit 0)] 150, .sp .u64 148 4096 []], .bool (.lit true), [.cells [.int .i64 (.lit 0), .int .i64 (.lit 0), .int .i64 (.lit 0), .int .i64 (.lit 0), .int .i64 (.lit 0), .int .i64 (.lit 0), .int .u64 (.lit 0), .nilf, .nilf, .bool (.lit false), .int .i64 (.lit 0), .nilp] 110, .cells [.ptr 2 0, .int .i64 (.lit 9), .int .i64 (.lit 0), .int .i64 (.lit 0), .int .u64 (.lit 0), .int .u64 (.lit 0), .bool (.lit false), .int .i64 (.lit 0)] 150, .sp .u64 148 4096 []]⟩
set_option maxRecDepth 1000000 in
theorem klJl16 : runL [lJl15, lJb] lJl16 := by intro cs; kernel_rfl
theorem hlJl16 : (lit lJl16).Holds objs Try.prog := lit_holds (callable _ Try.func51 (by kernel_rfl) (by kernel_rfl)) (all_cons hlJl15 (all_cons hlJb all_nil)) klJl16
def lJl17 : Lit := ⟨104, [.ptr 0 0, .ptr 1 0], [.cells [.int .i64 (.lit 0), .int .i64 (.lit 0), .int .i64 (.lit 0), .int .i64 (.lit 0), .int .i64 (.lit 0), .int .i64 (.lit 0), .int .u64 (.lit 0), .nilf, .nilf, .bool (.lit false), .int .i64 (.lit 0), .nilp] 114, .cells [.ptr 2 0, .int .i64 (.lit 9), .int .i64 (.lit 0), .int .i64 (.lit 0), .int .u64 (.lit 0), .int .u64 (.lit 0), .bool (.lit false), .int .i64 (.lit 0)] 150, .sp .u64 148 4096 []], .bool (.lit true), [.cells [.int .i64 (.lit 0), .int .i64 (.lit 0), .int .i64 (.lit 0), .int .i64 (.lit 0), .int .i64 (.lit 0), .int .i64 (.lit 0), .int .u64 (.lit 0), .nilf, .nilf, .bool (.lit false), .int .i64 (.lit 0), .nilp] 114, .cells [.ptr 2 0, .int .i64 (.lit 9), .int .i64 (.lit 0), .int .i64 (.lit 0), .int .u64 (.lit 0), .int .u64 (.lit 0), .bool (.lit false), .int .i64 (.lit 0)] 150, .sp .u64 148 4096 []]⟩
set_option maxRecDepth 1000000 in
theorem klJl17 : runL [lJb] lJl17 := by intro cs; kernel_rfl
theorem hlJl17 : (lit lJl17).Holds objs Try.prog := lit_holds (callable _ Try.func104 (by kernel_rfl) (by kernel_rfl)) (all_cons hlJb all_nil) klJl17
def lJl18 : Lit := ⟨52, [.ptr 0 0, .ptr 1 0], [.cells [.int .i64 (.lit 0), .int .i64 (.lit 0), .int .i64 (.lit 0), .int .i64 (.lit 0), .int .i64 (.lit 0), .int .i64 (.lit 0), .int .u64 (.lit 0), .nilf, .nilf, .bool (.lit false), .int .i64 (.lit 0), .nilp] 114, .cells [.ptr 2 0, .int .i64 (.lit 9), .int .i64 (.lit 0), .int .i64 (.lit 0), .int .u64 (.lit 0), .int .u64 (.lit 0), .bool (.lit false), .int .i64 (.lit 0)] 150, .sp .u64 148 4096 []], .bool (.lit true), [.cells [.int .i64 (.lit 0), .int .i64 (.lit 0), .int .i64 (.lit 0), .int .i64 (.lit 0), .int .i64 (.lit 0), .int .i64 (.lit 0), .int .u64 (.lit 0), .nilf, .nilf, .bool (.lit false), .int .i64 (.lit 0), .nilp] 114, .cells [.ptr 2 0, .int .i64 (.lit 9), .int .i64 (.lit 0), .int .i64 (.lit 0), .int .u64 (.lit 0), .int .u64 (.lit 0), .bool (.lit false), .int .i64 (.lit 0)] 150, .sp .u64 148 4096 []]⟩
set_option maxRecDepth 1000000 in
theorem klJl18 : runL [lJl17, lJb] lJl18 := by intro cs; kernel_rfl
theorem hlJl18 : (lit lJl18).Holds objs Try.prog := lit_holds (callable _ Try.func52 (by kernel_rfl) (by kernel_rfl)) (all_cons hlJl17 (all_cons hlJb all_nil)) klJl18
def lJl19 : Lit := ⟨104, [.ptr 0 0, .ptr 1 0], [.cells [.int .i64 (.lit 0), .int .i64 (.lit 0), .int .i64 (.lit 0), .int .i64 (.lit 0), .int .i64 (.lit 0), .int .i64 (.lit 0), .int .u64 (.lit 0), .nilf, .nilf, .bool (.lit false), .int .i64 (.lit 0), .int .i64 (.lit 0), .int .i64 (.lit 0), .int .i64 (.lit 0)] 119, .cells [.ptr 2 0, .int .i64 (.lit 9), .int .i64 (.lit 0), .int .i64 (.lit 0), .int .u64 (.lit 0), .int .u64 (.lit 0), .bool (.lit false), .int .i64 (.lit 0)] 150, .sp .u64 148 4096 []], .bool (.lit true), [.cells [.int .i64 (.lit 0), .int .i64 (.lit 0), .int .i64 (.lit 0), .int .i64 (.lit 0), .int .i64 (.lit 0), .int .i64 (.lit 0), .int .u64 (.lit 0), .nilf, .nilf, .bool (.lit false), .int .i64 (.lit 0), .int .i64 (.lit 0), .int .i64 (.lit 0), .int .i64 (.lit 0)] 119, .cells [.ptr 2 0, .int .i64 (.lit 9), .int .i64 (.lit 0), .int .i64 (.lit 0), .int .u64 (.lit 0), .int .u64 (.lit 0), .bool (.lit false), .int .i64 (.lit 0)] 150, .sp .u64 148 4096 []]⟩
set_option maxRecDepth 1000000 in
theorem klJl19 : runL [lJb] lJl19 := by intro cs; kernel_rfl
theorem hlJl19 : (lit lJl19).Holds objs Try.prog := lit_holds (callable _ Try.func104 (by kernel_rfl) (by kernel_rfl)) (all_cons hlJb all_nil) klJl19
def lJl20 : Lit := ⟨53, [.ptr 0 0, .ptr 1 0], [.cells [.int .i64 (.lit 0), .int .i64 (.lit 0), .int .i64 (.lit 0), .int .i64 (.lit 0), .int .i64 (.lit 0), .int .i64 (.lit 0), .int .u64 (.lit 0), .nilf, .nilf, .bool (.lit false), .int .i64 (.lit 0), .int .i64 (.lit 0), .int .i64 (.lit 0), .int .i64 (.lit 0)] 119, .cells [.ptr 2 0, .int .i64 (.lit 9), .int .i64 (.lit 0), .int .i64 (.lit 0), .int .u64 (.lit 0), .int .u64 (.lit 0), .bool (.lit false), .int .i64 (.lit 0)] 150, .sp .u64 148 4096 []], .bool (.lit true), [.cells [.int .i64 (.lit 0), .int .i64 (.lit 0), .int .i64 (.lit 0), .int .i64 (.lit 0), .int .i64 (.lit 0), .int .i64 (.lit 0), .int .u64 (.lit 0), .nilf, .nilf, .bool (.lit false), .int .i64 (.lit 0), .int .i64 (.lit 0), .int .i64 (.lit 0), .int .i64 (.lit 0)] 119, .cells [.ptr 2 0, .int .i64 (.lit 9), .int .i64 (.lit 0), .int .i64 (.lit 0), .int .u64 (.lit 0), .int .u64 (.lit 0), .bool (.lit false), .int .i64 (.lit 0)] 150, .sp .u64 148 4096 []]⟩
set_option maxRecDepth 1000000 in
theorem klJl20 : runL [lJl19, lJb] lJl20 := by intro cs; kernel_rfl
theorem hlJl20 : (lit lJl20).Holds objs Try.prog := lit_holds (callable _ Try.func53 (by kernel_rfl) (by kernel_rfl)) (all_cons hlJl19 (all_cons hlJb all_nil)) klJl20
def lJl21 : Lit := ⟨104, [.ptr 0 0, .ptr 1 0], [.cells [.int .i64 (.lit 0), .int .i64 (.lit 0), .int .i64 (.lit 0), .int .i64 (.lit 0), .int .i64 (.lit 0), .int .i64 (.lit 0), .int .u64 (.lit 0), .nilf, .nilf, .bool (.lit false), .int .i64 (.lit 0), .int .u64 (.lit 0)] 123, .cells [.ptr 2 0, .int .i64 (.lit 9), .int .i64 (.lit 0), .int .i64 (.lit 0), .int .u64 (.lit 0), .int .u64 (.lit 0), .bool (.lit false), .int .i64 (.lit 0)] 150, .sp .u64 148 4096 []], .bool (.lit true), [.cells [.int .i64 (.lit 0), .int .i64 (.lit 0), .int .i64 (.lit 0), .int .i64 (.lit 0), .int .i64 (.lit 0), .int .i64 (.lit 0), .int .u64 (.lit 0), .nilf, .nilf, .bool (.lit false), .int .i64 (.lit 0), .int .u64 (.lit 0)] 123, .cells [.ptr 2 0, .int .i64 (.lit 9), .int .i64 (.lit 0), .int .i64 (.lit 0), .int .u64 (.lit 0), .int .u64 (.lit 0), .bool (.lit false), .int .i64 (.lit 0)] 150, .sp .u64 148 4096 []]⟩
set_option maxRecDepth 1000000 in
theorem klJl21 : runL [lJb] lJl21 := by intro cs; kernel_rfl
theorem hlJl21 : (lit lJl21).Holds objs Try.prog := lit_holds (callable _ Try.func104 (by kernel_rfl) (by kernel_rfl)) (all_cons hlJb all_nil) klJl21
def lJl22 : Lit := ⟨54, [.ptr 0 0, .ptr 1 0], [.cells [.int .i64 (.lit 0), .int .i64 (.lit 0), .int .i64 (.lit 0), .int .i64 (.lit 0), .int .i64 (.lit 0), .int .i64 (.lit 0), .int .u64 (.lit 0), .nilf, .nilf, .bool (.lit false), .int .i64 (.lit 0), .int .u64 (.lit 0)] 123, .cells [.ptr 2 0, .int .i64 (.lit 9), .int .i64 (.lit 0), .int .i64 (.lit 0), .int .u64 (.lit 0), .int .u64 (.lit 0), .bool (.lit false), .int .i64 (.lit 0)] 150, .sp .u64 148 4096 []], .bool (.lit true), [.cells [.int .i64 (.lit 0), .int .i64 (.lit 0), .int .i64 (.lit 0), .int .i64 (.lit 0), .int .i64 (.lit 0), .int .i64 (.lit 0), .int .u64 (.lit 0), .nilf, .nilf, .bool (.lit false), .int .i64 (.lit 0), .int .u64 (.lit 0)] 123, .cells [.ptr 2 0, .int .i64 (.lit 9), .int .i64 (.lit 0), .int .i64 (.lit 0), .int .u64 (.lit 0), .int .u64 (.lit 0), .bool (.lit false), .int .i64 (.lit 0)] 150, .sp .u64 148 4096 []]⟩
set_option maxRecDepth 1000000 in
theorem klJl22 : runL [lJl21, lJb] lJl22 := by intro cs; kernel_rfl
theorem hlJl22 : (lit lJl22).Holds objs Try.prog := lit_holds (callable _ Try.func54 (by kernel_rfl) (by kernel_rfl)) (all_cons hlJl21 (all_cons hlJb all_nil)) klJl22
def lJl23 : Lit := ⟨104, [.ptr 0 0, .ptr 1 0], [.cells [.int .i64 (.lit 0), .int .i64 (.lit 0), .int .i64 (.lit 0), .int .i64 (.lit 0), .int .i64 (.lit 0), .int .i64 (.lit 0), .int .u64 (.lit 0), .nilf, .nilf, .bool (.lit false), .int .i64 (.lit 0)] 127, .cells [.ptr 2 0, .int .i64 (.lit 9), .int .i64 (.lit 0), .int .i64 (.lit 0), .int .u64 (.lit 0), .int .u64 (.lit 0), .bool (.lit false), .int .i64 (.lit 0)] 150, .sp .u64 148 4096 []], .bool (.lit true), [.cells [.int .i64 (.lit 0), .int .i64 (.lit 0), .int .i64 (.lit 0), .int .i64 (.lit 0), .int .i64 (.lit 0), .int .i64 (.lit 0), .int .u64 (.lit 0), .nilf, .nilf, .bool (.lit false), .int .i64 (.lit 0)] 127, .cells [.ptr 2 0, .int .i64 (.lit 9), .int .i64 (.lit 0), .int .i64 (.lit 0), .int .u64 (.lit 0), .int .u64 (.lit 0), .bool (.lit false), .int .i64 (.lit 0)] 150, .sp .u64 148 4096 []]⟩
set_option maxRecDepth 1000000 in
theorem klJl23 : runL [lJb] lJl23 := by intro cs; kernel_rfl
theorem hlJl23 : (lit lJl23).Holds objs Try.prog := lit_holds (callable _ Try.func104 (by kernel_rfl) (by kernel_rfl)) (all_cons hlJb all_nil) klJl23
def lJl24 : Lit := ⟨55, [.ptr 0 0, .ptr 1 0], [.cells [.int .i64 (.lit 0), .int .i64 (.lit 0), .int .i64 (.lit 0), .int .i64 (.lit 0), .int .i64 (.lit 0), .int .i64 (.lit 0), .int .u64 (.lit 0), .nilf, .nilf, .bool (.lit false), .int .i64 (.lit 0)] 127, .cells [.ptr 2 0, .int .i64 (.lit 9), .int .i64 (.lit 0), .int .i64 (.lit 0), .int .u64 (.lit 0), .int .u64 (.lit 0), .bool (.lit false), .int .i64 (.lit 0)] 150, .sp .u64 148 4096 []], .bool (.lit true), [.cells [.int .i64 (.lit 0), .int .i64 (.lit 0), .int .i64 (.lit 0), .int .i64 (.lit 0), .int .i64 (.lit 0), .int .i64 (.lit 0), .int .u64 (.lit 0), .nilf, .nilf, .bool (.lit false), .int .i64 (.lit 0)] 127, .cells [.ptr 2 0, .int .i64 (.lit 9), .int .i64 (.lit 0), .int .i64 (.lit 0), .int .u64 (.lit 0), .int .u64 (.lit 0), .bool (.lit false), .int .i64 (.lit 0)] 150, .sp .u64 148 4096 []]⟩
set_option maxRecDepth 1000000 in
theorem klJl24 : runL [lJl23, lJb] lJl24 := by intro cs; kernel_rfl
theorem hlJl24 : (lit lJl24).Holds objs Try.prog := lit_holds (callable _ Try.func55 (by kernel_rfl) (by kernel_rfl)) (all_cons hlJl23 (all_cons hlJb all_nil)) klJl24
def lJl25 : Lit := ⟨103, [.ptr 0 0], [.cells [.int .i64 (.lit 0), .int .i64 (.lit 0), .int .i64 (.lit 0), .int .i64 (.lit 0), .int .i64 (.lit 0), .int .i64 (.lit 0), .int .u64 (.lit 0), .nilf, .nilf, .bool (.lit false), .int .i64 (.lit 0), .nilp] 114], .int .i64 (.lit 1), [.cells [.int .i64 (.lit 0), .int .i64 (.lit 0), .int .i64 (.lit 0), .int .i64 (.lit 0), .int .i64 (.lit 0), .int .i64 (.lit 0), .int .u64 (.lit 0), .nilf, .nilf, .bool (.lit false), .int .i64 (.lit 0), .nilp] 114]⟩
set_option maxRecDepth 1000000 in
theorem klJl25 : runL [lJb] lJl25 := by intro cs; kernel_rfl
theorem hlJl25 : (lit lJl25).Holds objs Try.prog := lit_holds (callable _ Try.func103 (by kernel_rfl) (by kernel_rfl)) (all_cons hlJb all_nil) klJl25
def lJl26 : Lit := ⟨56, [.ptr 0 0], [.cells [.int .i64 (.lit 0), .int .i64 (.lit 0), .int .i64 (.lit 0), .int .i64 (.lit 0), .int .i64 (.lit 0), .int .i64 (.lit 0), .int .u64 (.lit 0), .nilf, .nilf, .bool (.lit false), .int .i64 (.lit 0), .nilp] 114], .int .i64 (.lit 1), [.cells [.int .i64 (.lit 0), .int .i64 (.lit 0), .int .i64 (.lit 0), .int .i64 (.lit 0), .int .i64 (.lit 0), .int .i64 (.lit 0), .int .u64 (.lit 0), .nilf, .nilf, .bool (.lit false), .int .i64 (.lit 0), .nilp] 114]⟩
set_option maxRecDepth 1000000 in
theorem klJl26 : runL [lJl25, lJb] lJl26 := by intro cs; kernel_rfl
theorem hlJl26 : (lit lJl26).Holds objs Try.prog := lit_holds (callable _ Try.func56 (by kernel_rfl) (by kernel_rfl)) (all_cons hlJl25 (all_cons hlJb all_nil)) klJl26
def lJl27 : Lit := ⟨103, [.ptr 0 0], [.cells [.int .i64 (.lit 0), .int .i64 (.lit 0), .int .i64 (.lit 0), .int .i64 (.lit 0), .int .i64 (.lit 0), .int .i64 (.lit 0), .int .u64 (.lit 0), .nilf, .nilf, .bool (.lit false), .int .i64 (.lit 0), .int .i64 (.lit 0), .int .i64 (.lit 0), .int .i64 (.lit 0)] 119], .int .i64 (.lit 1), [.cells [.int .i64 (.lit 0), .int .i64 (.lit 0), .int .i64 (.lit 0), .int .i64 (.lit 0), .int .i64 (.lit 0), .int .i64 (.lit 0), .int .u64 (.lit 0), .nilf, .nilf, .bool (.lit false), .int .i64 (.lit 0), .int .i64 (.lit 0), .int .i64 (.lit 0), .int .i64 (.lit 0)] 119]⟩
set_option maxRecDepth 1000000 in
theorem klJl27 : runL [lJb] lJl27 := by intro cs; kernel_rfl
theorem hlJl27 : (lit lJl27).Holds objs Try.prog := lit_holds (callable _ Try.func103 (by kernel_rfl) (by kernel_rfl)) (all_cons hlJb all_nil) klJl27
def lJl28 : Lit := ⟨57, [.ptr 0 0], [.cells [.int .i64 (.lit 0), .int .i64 (.lit 0), .int .i64 (.lit 0), .int .i64 (.lit 0), .int .i64 (.lit 0), .int .i64 (.lit 0), .int .u64 (.lit 0), .nilf, .nilf, .bool (.lit false), .int .i64 (.lit 0), .int .i64 (.lit 0), .int .i64 (.lit 0), .int .i64 (.lit 0)] 119], .int .i64 (.lit 1), [.cells [.int .i64 (.lit 0), .int .i64 (.lit 0), .int .i64 (.lit 0), .int .i64 (.lit 0), .int .i64 (.lit 0), .int .i64 (.lit 0), .int .u64 (.lit 0), .nilf, .nilf, .bool (.lit false), .int .i64 (.lit 0), .int .i64 (.lit 0), .int .i64 (.lit 0), .int .i64 (.lit 0)] 119]⟩
set_option maxRecDepth 1000000 in
theorem klJl28 : runL [lJl27, lJb] lJl28 := by intro cs; kernel_rfl
theorem hlJl28 : (lit lJl28).Holds objs Try.prog := lit_holds (callable _ Try.func57 (by kernel_rfl) (by kernel_rfl)) (all_cons hlJl27 (all_cons hlJb all_nil)) klJl28
def lJl29 : Lit := ⟨103, [.ptr 0 0], [.cells [.int .i64 (.lit 0), .int .i64 (.lit 0), .int .i64 (.lit 0), .int .i64 (.lit 0), .int .i64 (.lit 0), .int .i64 (.lit 0), .int .u64 (.lit 0), .nilf, .nilf, .bool (.lit false), .int .i64 (.lit 0), .int .u64 (.lit 0)] 123], .int .i64 (.lit 1), [.cells [.int .i64 (.lit 0), .int .i64 (.lit 0), .int .i64 (.lit 0), .int .i64 (.lit 0), .int .i64 (.lit 0), .int .i64 (.lit 0), .int .u64 (.lit 0), .nilf, .nilf, .bool (.lit false), .int .i64 (.lit 0), .int .u64 (.lit 0)] 123]⟩
set_option maxRecDepth 1000000 in
theorem klJl29 : runL [lJb] lJl29 := by intro cs; kernel_rfl
theorem hlJl29 : (lit lJl29).Holds objs Try.prog := lit_holds (callable _ Try.func103 (by kernel_rfl) (by kernel_rfl)) (all_cons hlJb all_nil) klJl29
def lJl30 : Lit := ⟨58, [.ptr 0 0], [.cells [.int .i64 (.lit 0), .int .i64 (.lit 0), .int .i64 (.lit 0), .int .i64 (.lit 0), .int .i64 (.lit 0), .int .i64 (.lit 0), .int .u64 (.lit 0), .nilf, .nilf, .bool (.lit false), .int .i64 (.lit 0), .int .u64 (.lit 0)] 123], .int .i64 (.lit 1), [.cells [.int .i64 (.lit 0), .int .i64 (.lit 0), .int .i64 (.lit 0), .int .i64 (.lit 0), .int .i64 (.lit 0), .int .i64 (.lit 0), .int .u64 (.lit 0), .nilf, .nilf, .bool (.lit false), .int .i64 (.lit 0), .int .u64 (.lit 0)] 123]⟩
set_option maxRecDepth 1000000 in
theorem klJl30 : runL [lJl29, lJb] lJl30 := by intro cs; kernel_rfl
theorem hlJl30 : (lit lJl30).Holds objs Try.prog := lit_holds (callable _ Try.func58 (by kernel_rfl) (by kernel_rfl)) (all_cons hlJl29 (all_cons hlJb all_nil)) klJl30
def lJl31 : Lit := ⟨60, [], [], .agg [.int .i64 (.lit 3), .int .i64 (.lit 5), .int .i64 (.lit 0), .int .i64 (.lit 1), .int .i64 (.lit 2)], []⟩
set_option maxRecDepth 1000000 in
theorem klJl31 : runL [lJb] lJl31 := by intro cs; kernel_rfl
theorem hlJl31 : (lit lJl31).Holds objs Try.prog := lit_holds (callable _ Try.func60 (by kernel_rfl) (by kernel_rfl)) (all_cons hlJb all_nil) klJl31
def lJl32 : Lit := ⟨61, [.ptr 0 0], [.cells [.int .i64 (.lit 0), .int .i64 (.lit 0), .int .i64 (.lit 0), .int .i64 (.lit 0), .int .i64 (.lit 0), .int .i64 (.lit 9), .int .i64 (.lit 0), .int .u64 (.lit 0), .nilp, .nilp, .nils, .int .i64 (.lit 0), .int .i64 (.lit 0), .bool (.lit false), .int .i64 (.lit 3)] 175], .int .i64 (.lit 3), [.cells [.int .i64 (.lit 0), .int .i64 (.lit 0), .int .i64 (.lit 0), .int .i64 (.lit 0), .int .i64 (.lit 0), .int .i64 (.lit 9), .int .i64 (.lit 0), .int .u64 (.lit 0), .nilp, .nilp, .nils, .int .i64 (.lit 0), .int .i64 (.lit 0), .bool (.lit false), .int .i64 (.lit 3)] 175]⟩
set_option maxRecDepth 1000000 in
theorem klJl32 : runL [lJb] lJl32 := by intro cs; kernel_rfl
theorem hlJl32 : (lit lJl32).Holds objs Try.prog := lit_holds (callable _ Try.func61 (by kernel_rfl) (by kernel_rfl)) (all_cons hlJb all_nil) klJl32
def lJl33 : Lit := ⟨22, [.agg [.int .i64 (.lit 0), .int .i64 (.lit 1), .int .i64 (.lit 2)], .nilp], [], .tuple [], []⟩
set_option maxRecDepth 1000000 in
theorem klJl33 : runL [lJb] lJl33 := by intro cs; kernel_rfl
theorem hlJl33 : (lit lJl33).Holds objs Try.prog := lit_holds (callable _ Try.func22 (by kernel_rfl) (by kernel_rfl)) (all_cons hlJb all_nil) klJl33
def lJl34 : Lit := ⟨66, [.agg [.int .i64 (.lit 3), .int .i64 (.lit 5), .int .i64 (.lit 0), .int .i64 (.lit 1), .int .i64 (.lit 2)], .nilp], [], .tuple [], []⟩
set_option maxRecDepth 1000000 in
theorem klJl34 : runL [lJl33, lJb] lJl34 := by intro cs; kernel_rfl
theorem hlJl34 : (lit lJl34).Holds objs Try.prog := lit_holds (callable _ Try.func66 (by kernel_rfl) (by kernel_rfl)) (all_cons hlJl33 (all_cons hlJb all_nil)) klJl34
def lJl35 : Lit := ⟨21, [.ptr 0 0], [.cells [.ptr 1 0, .int .i64 (.lit 9), .int .i64 (.lit 0), .int .i64 (.lit 0), .int .u64 (.lit 0), .int .u64 (.lit 0), .bool (.lit false), .int .i64 (.lit 0)] 150, .sp .u64 148 4096 []], .int .i64 (.lit 0), [.cells [.ptr 1 0, .int .i64 (.lit 9), .int .i64 (.lit 0), .int .i64 (.lit 0), .int .u64 (.lit 0), .int .u64 (.lit 0), .bool (.lit false), .int .i64 (.lit 0)] 150, .sp .u64 148 4096 []]⟩
set_option maxRecDepth 1000000 in
theorem klJl35 : runL [lJb] lJl35 := by intro cs; kernel_rfl
theorem hlJl35 : (lit lJl35).Holds objs Try.prog := lit_holds (callable _ Try.func21 (by kernel_rfl) (by kernel_rfl)) (all_cons hlJb all_nil) klJl35
def lJl36 : Lit := ⟨61, [.ptr 0 0], [.cells [.int .i64 (.lit 0), .int .i64 (.lit 0), .int .i64 (.lit 0), .int .i64 (.lit 0), .int .i64 (.lit 0), .int .i64 (.lit 9), .int .i64 (.lit 0), .int .u64 (.lit 0), .nilp, .nilp, .nils, .int .i64 (.lit 0), .int .i64 (.lit 0), .bool (.lit false), .int .i64 (.lit 2)] 175], .int .i64 (.lit 2), [.cells [.int .i64 (.lit 0), .int .i64 (.lit 0), .int .i64 (.lit 0), .int .i64 (.lit 0), .int .i64 (.lit 0), .int .i64 (.lit 9), .int .i64 (.lit 0), .int .u64 (.lit 0), .nilp, .nilp, .nils, .int .i64 (.lit 0), .int .i64 (.lit 0), .bool (.lit false), .int .i64 (.lit 2)] 175]⟩
set_option maxRecDepth 1000000 in
theorem klJl36 : runL [lJb] lJl36 := by intro cs; kernel_rfl
theorem hlJl36 : (lit lJl36).Holds objs Try.prog := lit_holds (callable _ Try.func61 (by kernel_rfl) (by kernel_rfl)) (all_cons hlJb all_nil) klJl36
end Go.Proofs.Ytdabdbbgaekmdaa
