/- Calls of a run whose numbers are all known, as a program of ours printed them. -/
import Derived.Test.YtdabdbbgaekmdaaLt
import Derived.Test.YtdabdbbgaekmdaaJb
import Derived.Test.YtdabdbbgaekmdaaJb3
import Derived.Test.YtdabdbbgaekmdaaJb4
namespace Go.Proofs.Ytdabdbbgaekmdaa
set_option linter.unusedVariables false
set_option linter.unusedSimpArgs false
set_option linter.unusedSectionVars false
open Go Go.RowKit

def lJk320 : Lit := ⟨107, [.ptr 0 0], [.cells [.int .i64 (.lit 3), .int .i64 (.lit 5), .int .i64 (.lit 0), .int .i64 (.lit 1), .int .i64 (.lit 2), .int .i64 (.lit 0), .int .u64 (.lit 0), .nilf, .nilf, .bool (.lit true), .int .i64 (.lit 0), .int .i64 (.lit 1), .int .i64 (.lit 3), .int .i64 (.lit 0)] 119], .bool (.lit false), [.cells [.int .i64 (.lit 3), .int .i64 (.lit 5), .int .i64 (.lit 0), .int .i64 (.lit 1), .int .i64 (.lit 2), .int .i64 (.lit 0), .int .u64 (.lit 0), .nilf, .nilf, .bool (.lit true), .int .i64 (.lit 0), .int .i64 (.lit 1), .int .i64 (.lit 3), .int .i64 (.lit 0)] 119]⟩
set_option maxRecDepth 1000000 in
theorem klJk320 : runL [lJb] lJk320 := by intro cs; kernel_rfl
theorem hlJk320 : (lit lJk320).Holds objs Try.prog := lit_holds (callable _ Try.func107 (by kernel_rfl) (by kernel_rfl)) (all_cons hlJb all_nil) klJk320
def lJk321 : Lit := ⟨108, [.int .i64 (.lit 1), .int .i64 (.lit 3)], [], .bool (.lit false), []⟩
set_option maxRecDepth 1000000 in
theorem klJk321 : runL [lJb97, lJb] lJk321 := by intro cs; kernel_rfl
theorem hlJk321 : (lit lJk321).Holds objs Try.prog := lit_holds (callable _ Try.func108 (by kernel_rfl) (by kernel_rfl)) (all_cons hlJb97 (all_cons hlJb all_nil)) klJk321
def lJk322 : Lit := ⟨62, [.agg [.int .i64 (.lit 3), .int .i64 (.lit 5), .int .i64 (.lit 0), .int .i64 (.lit 1), .int .i64 (.lit 2)], .int .i64 (.lit 0), .int .i64 (.lit 1), .int .i64 (.lit 3), .int .i64 (.lit 0)], [], .ptr 0 0, [.cells [.int .i64 (.lit 3), .int .i64 (.lit 5), .int .i64 (.lit 0), .int .i64 (.lit 1), .int .i64 (.lit 2), .int .i64 (.lit 0), .int .u64 (.lit 0), .nilf, .nilf, .bool (.lit true), .int .i64 (.lit 2), .int .i64 (.lit 1), .int .i64 (.lit 3), .int .i64 (.lit 0)] 119]⟩
set_option maxRecDepth 1000000 in
theorem klJk322 : runL [lJk320, lJk321, lJb] lJk322 := by intro cs; kernel_rfl
theorem hlJk322 : (lit lJk322).Holds objs Try.prog := lit_holds (callable _ Try.func62 (by kernel_rfl) (by kernel_rfl)) (all_cons hlJk320 (all_cons hlJk321 (all_cons hlJb all_nil))) klJk322
def lJk323 : Lit := ⟨103, [.ptr 0 0], [.cells [.int .i64 (.lit 3), .int .i64 (.lit 5), .int .i64 (.lit 0), .int .i64 (.lit 1), .int .i64 (.lit 2), .int .i64 (.lit 0), .int .u64 (.lit 0), .nilf, .nilf, .bool (.lit true), .int .i64 (.lit 2), .int .i64 (.lit 1), .int .i64 (.lit 3), .int .i64 (.lit 0)] 119], .int .i64 (.lit 2), [.cells [.int .i64 (.lit 3), .int .i64 (.lit 5), .int .i64 (.lit 0), .int .i64 (.lit 1), .int .i64 (.lit 2), .int .i64 (.lit 0), .int .u64 (.lit 0), .nilf, .nilf, .bool (.lit true), .int .i64 (.lit 2), .int .i64 (.lit 1), .int .i64 (.lit 3), .int .i64 (.lit 0)] 119]⟩
set_option maxRecDepth 1000000 in
theorem klJk323 : runL [lJb] lJk323 := by intro cs; kernel_rfl
theorem hlJk323 : (lit lJk323).Holds objs Try.prog := lit_holds (callable _ Try.func103 (by kernel_rfl) (by kernel_rfl)) (all_cons hlJb all_nil) klJk323
def lJk324 : Lit := ⟨57, [.ptr 0 0], [.cells [.int .i64 (.lit 3), .int .i64 (.lit 5), .int .i64 (.lit 0), .int .i64 (.lit 1), .int .i64 (.lit 2), .int .i64 (.lit 0), .int .u64 (.lit 0), .nilf, .nilf, .bool (.lit true), .int .i64 (.lit 2), .int .i64 (.lit 1), .int .i64 (.lit 3), .int .i64 (.lit 0)] 119], .int .i64 (.lit 2), [.cells [.int .i64 (.lit 3), .int .i64 (.lit 5), .int .i64 (.lit 0), .int .i64 (.lit 1), .int .i64 (.lit 2), .int .i64 (.lit 0), .int .u64 (.lit 0), .nilf, .nilf, .bool (.lit true), .int .i64 (.lit 2), .int .i64 (.lit 1), .int .i64 (.lit 3), .int .i64 (.lit 0)] 119]⟩
set_option maxRecDepth 1000000 in
theorem klJk324 : runL [lJk323, lJb] lJk324 := by intro cs; kernel_rfl
theorem hlJk324 : (lit lJk324).Holds objs Try.prog := lit_holds (callable _ Try.func57 (by kernel_rfl) (by kernel_rfl)) (all_cons hlJk323 (all_cons hlJb all_nil)) klJk324
def lJk325 : Lit := ⟨107, [.ptr 0 0], [.cells [.int .i64 (.lit 3), .int .i64 (.lit 5), .int .i64 (.lit 0), .int .i64 (.lit 1), .int .i64 (.lit 2), .int .i64 (.lit 2), .int .u64 (.lit 0), .nilf, .nilf, .bool (.lit true), .int .i64 (.lit 0), .int .i64 (.lit 2), .int .i64 (.lit 3), .int .i64 (.lit 0)] 119], .bool (.lit true), [.cells [.int .i64 (.lit 3), .int .i64 (.lit 5), .int .i64 (.lit 0), .int .i64 (.lit 1), .int .i64 (.lit 2), .int .i64 (.lit 2), .int .u64 (.lit 0), .nilf, .nilf, .bool (.lit true), .int .i64 (.lit 3), .int .i64 (.lit 2), .int .i64 (.lit 3), .int .i64 (.lit 0)] 119]⟩
set_option maxRecDepth 1000000 in
theorem klJk325 : runL [lJb] lJk325 := by intro cs; kernel_rfl
theorem hlJk325 : (lit lJk325).Holds objs Try.prog := lit_holds (callable _ Try.func107 (by kernel_rfl) (by kernel_rfl)) (all_cons hlJb all_nil) klJk325
def lJk326 : Lit := ⟨62, [.agg [.int .i64 (.lit 3), .int .i64 (.lit 5), .int .i64 (.lit 0), .int .i64 (.lit 1), .int .i64 (.lit 2)], .int .i64 (.lit 2), .int .i64 (.lit 2), .int .i64 (.lit 3), .int .i64 (.lit 0)], [], .ptr 0 0, [.cells [.int .i64 (.lit 3), .int .i64 (.lit 5), .int .i64 (.lit 0), .int .i64 (.lit 1), .int .i64 (.lit 2), .int .i64 (.lit 2), .int .u64 (.lit 0), .nilf, .nilf, .bool (.lit true), .int .i64 (.lit 3), .int .i64 (.lit 2), .int .i64 (.lit 3), .int .i64 (.lit 0)] 119]⟩
set_option maxRecDepth 1000000 in
theorem klJk326 : runL [lJk325, lJb] lJk326 := by intro cs; kernel_rfl
theorem hlJk326 : (lit lJk326).Holds objs Try.prog := lit_holds (callable _ Try.func62 (by kernel_rfl) (by kernel_rfl)) (all_cons hlJk325 (all_cons hlJb all_nil)) klJk326
def lJk327 : Lit := ⟨103, [.ptr 0 0], [.cells [.int .i64 (.lit 3), .int .i64 (.lit 5), .int .i64 (.lit 0), .int .i64 (.lit 1), .int .i64 (.lit 2), .int .i64 (.lit 2), .int .u64 (.lit 0), .nilf, .nilf, .bool (.lit true), .int .i64 (.lit 3), .int .i64 (.lit 2), .int .i64 (.lit 3), .int .i64 (.lit 0)] 119], .int .i64 (.lit 3), [.cells [.int .i64 (.lit 3), .int .i64 (.lit 5), .int .i64 (.lit 0), .int .i64 (.lit 1), .int .i64 (.lit 2), .int .i64 (.lit 2), .int .u64 (.lit 0), .nilf, .nilf, .bool (.lit true), .int .i64 (.lit 3), .int .i64 (.lit 2), .int .i64 (.lit 3), .int .i64 (.lit 0)] 119]⟩
set_option maxRecDepth 1000000 in
theorem klJk327 : runL [lJb] lJk327 := by intro cs; kernel_rfl
theorem hlJk327 : (lit lJk327).Holds objs Try.prog := lit_holds (callable _ Try.func103 (by kernel_rfl) (by kernel_rfl)) (all_cons hlJb all_nil) klJk327
def lJk328 : Lit := ⟨57, [.ptr 0 0], [.cells [.int .i64 (.lit 3), .int .i64 (.lit 5), .int .i64 (.lit 0), .int .i64 (.lit 1), .int .i64 (.lit 2), .int .i64 (.lit 2), .int .u64 (.lit 0), .nilf, .nilf, .bool (.lit true), .int .i64 (.lit 3), .int .i64 (.lit 2), .int .i64 (.lit 3), .int .i64 (.lit 0)] 119], .int .i64 (.lit 3), [.cells [.int .i64 (.lit 3), .int .i64 (.lit 5), .int .i64 (.lit 0), .int .i64 (.lit 1), .int .i64 (.lit 2), .int .i64 (.lit 2), .int .u64 (.lit 0), .nilf, .nilf, .bool (.lit true), .int .i64 (.lit 3), .int .i64 (.lit 2), .int .i64 (.lit 3), .int .i64 (.lit 0)] 119]⟩
set_option maxRecDepth 1000000 in
theorem klJk328 : runL [lJk327, lJb] lJk328 := by intro cs; kernel_rfl
theorem hlJk328 : (lit lJk328).Holds objs Try.prog := lit_holds (callable _ Try.func57 (by kernel_rfl) (by kernel_rfl)) (all_cons hlJk327 (all_cons hlJb all_nil)) klJk328
def lJk329 : Lit := ⟨107, [.ptr 0 0], [.cells [.int .i64 (.lit 3), .int .i64 (.lit 5), .int .i64 (.lit 0), .int .i64 (.lit 1), .int .i64 (.lit 2), .int .i64 (.lit 0), .int .u64 (.lit 0), .nilf, .nilf, .bool (.lit true), .int .i64 (.lit 0), .int .i64 (.lit 3), .int .i64 (.lit 4), .int .i64 (.lit 64)] 119], .bool (.lit false), [.cells [.int .i64 (.lit 3), .int .i64 (.lit 5), .int .i64 (.lit 0), .int .i64 (.lit 1), .int .i64 (.lit 2), .int .i64 (.lit 0), .int .u64 (.lit 0), .nilf, .nilf, .bool (.lit true), .int .i64 (.lit 0), .int .i64 (.lit 3), .int .i64 (.lit 4), .int .i64 (.lit 64)] 119]⟩
set_option maxRecDepth 1000000 in
theorem klJk329 : runL [lJb] lJk329 := by intro cs; kernel_rfl
theorem hlJk329 : (lit lJk329).Holds objs Try.prog := lit_holds (callable _ Try.func107 (by kernel_rfl) (by kernel_rfl)) (all_cons hlJb all_nil) klJk329
def lJk330 : Lit := ⟨62, [.agg [.int .i64 (.lit 3), .int .i64 (.lit 5), .int .i64 (.lit 0), .int .i64 (.lit 1), .int .i64 (.lit 2)], .int .i64 (.lit 0), .int .i64 (.lit 3), .int .i64 (.lit 4), .int .i64 (.lit 64)], [], .ptr 0 0, [.cells [.int .i64 (.lit 3), .int .i64 (.lit 5), .int .i64 (.lit 0), .int .i64 (.lit 1), .int .i64 (.lit 2), .int .i64 (.lit 0), .int .u64 (.lit 0), .nilf, .nilf, .bool (.lit true), .int .i64 (.lit 3), .int .i64 (.lit 3), .int .i64 (.lit 4), .int .i64 (.lit 64)] 119]⟩
set_option maxRecDepth 1000000 in
theorem klJk330 : runL [lJk329, lJb127, lJb] lJk330 := by intro cs; kernel_rfl
theorem hlJk330 : (lit lJk330).Holds objs Try.prog := lit_holds (callable _ Try.func62 (by kernel_rfl) (by kernel_rfl)) (all_cons hlJk329 (all_cons hlJb127 (all_cons hlJb all_nil))) klJk330
def lJk331 : Lit := ⟨103, [.ptr 0 0], [.cells [.int .i64 (.lit 3), .int .i64 (.lit 5), .int .i64 (.lit 0), .int .i64 (.lit 1), .int .i64 (.lit 2), .int .i64 (.lit 0), .int .u64 (.lit 0), .nilf, .nilf, .bool (.lit true), .int .i64 (.lit 3), .int .i64 (.lit 3), .int .i64 (.lit 4), .int .i64 (.lit 64)] 119], .int .i64 (.lit 3), [.cells [.int .i64 (.lit 3), .int .i64 (.lit 5), .int .i64 (.lit 0), .int .i64 (.lit 1), .int .i64 (.lit 2), .int .i64 (.lit 0), .int .u64 (.lit 0), .nilf, .nilf, .bool (.lit true), .int .i64 (.lit 3), .int .i64 (.lit 3), .int .i64 (.lit 4), .int .i64 (.lit 64)] 119]⟩
set_option maxRecDepth 1000000 in
theorem klJk331 : runL [lJb] lJk331 := by intro cs; kernel_rfl
theorem hlJk331 : (lit lJk331).Holds objs Try.prog := lit_holds (callable _ Try.func103 (by kernel_rfl) (by kernel_rfl)) (all_cons hlJb all_nil) klJk331
def lJk332 : Lit := ⟨57, [.ptr 0 0], [.cells [.int .i64 (.lit 3), .int .i64 (.lit 5), .int .i64 (.lit 0), .int .i64 (.lit 1), .int .i64 (.lit 2), .int .i64 (.lit 0), .int .u64 (.lit 0), .nilf, .nilf, .bool (.lit true), .int .i64 (.lit 3), .int .i64 (.lit 3), .int .i64 (.lit 4), .int .i64 (.lit 64)] 119], .int .i64 (.lit 3), [.cells [.int .i64 (.lit 3), .int .i64 (.lit 5), .int .i64 (.lit 0), .int .i64 (.lit 1), .int .i64 (.lit 2), .int .i64 (.lit 0), .int .u64 (.lit 0), .nilf, .nilf, .bool (.lit true), .int .i64 (.lit 3), .int .i64 (.lit 3), .int .i64 (.lit 4), .int .i64 (.lit 64)] 119]⟩
set_option maxRecDepth 1000000 in
theorem klJk332 : runL [lJk331, lJb] lJk332 := by intro cs; kernel_rfl
theorem hlJk332 : (lit lJk332).Holds objs Try.prog := lit_holds (callable _ Try.func57 (by kernel_rfl) (by kernel_rfl)) (all_cons hlJk331 (all_cons hlJb all_nil)) klJk332
end Go.Proofs.Ytdabdbbgaekmdaa
