/- Calls of a run whose numbers are all known, as a program of ours printed them. -/
import Derived.Test.YtbmbiiiacajolaaLt
import Derived.Test.YtbmbiiiacajolaaTbX
import Derived.Test.YtbmbiiiacajolaaNl1
namespace Go.Proofs.Ytbmbiiiacajolaa
set_option linter.unusedVariables false
set_option linter.unusedSimpArgs false
set_option linter.unusedSectionVars false
open Go Go.RowKit

def lNl40 : Lit := ⟨20, [.ptr 0 0, .ptr 1 0], [.cells [.bool (.lit true), .int .u64 (.lit 65544), .nilf, .nilf, .nilf, .nilf, .int .i64 (.lit 4), .int .i64 (.lit 3)] 46, .cells [.ptr 2 0, .int .i64 (.lit 34), .int .i64 (.lit 0), .int .i64 (.lit 0), .int .u64 (.lit 0), .int .u64 (.lit 0), .bool (.lit false), .int .i64 (.lit 0)] 120, .sp .u64 116 4096 []], .bool (.lit true), [.cells [.bool (.lit true), .int .u64 (.lit 65544), .nilf, .nilf, .nilf, .nilf, .int .i64 (.lit 4), .int .i64 (.lit 3)] 46, .cells [.ptr 2 0, .int .i64 (.lit 34), .int .i64 (.lit 0), .int .i64 (.lit 0), .int .u64 (.lit 0), .int .u64 (.lit 0), .bool (.lit false), .int .i64 (.lit 0)] 120, .sp .u64 116 4096 []]⟩
set_option maxRecDepth 1000000 in
theorem klNl40 : runL [lNl39, lTAx] lNl40 := by intro cs; kernel_rfl
theorem hlNl40 : (lit lNl40).Holds objs Try.prog := lit_holds (callable _ Try.func20 (by kernel_rfl) (by kernel_rfl)) (all_cons hlNl39 (all_cons hlTAx all_nil)) klNl40
def lNl41 : Lit := ⟨21, [.ptr 0 0], [.cells [.bool (.lit true), .int .u64 (.lit 65544), .nilf, .nilf, .nilf, .nilf, .int .i64 (.lit 4), .int .i64 (.lit 3)] 46], .int .i64 (.lit 3), [.cells [.bool (.lit true), .int .u64 (.lit 65544), .nilf, .nilf, .nilf, .nilf, .int .i64 (.lit 4), .int .i64 (.lit 3)] 46]⟩
set_option maxRecDepth 1000000 in
theorem klNl41 : runL [lNl39, lTAx] lNl41 := by intro cs; kernel_rfl
theorem hlNl41 : (lit lNl41).Holds objs Try.prog := lit_holds (callable _ Try.func21 (by kernel_rfl) (by kernel_rfl)) (all_cons hlNl39 (all_cons hlTAx all_nil)) klNl41
def lNl42 : Lit := ⟨68, [.ptr 0 0], [.cells [.bool (.lit true), .int .u64 (.lit 65537), .nilf, .nilf, .nilf, .nilf, .int .i64 (.lit 4), .int .i64 (.lit 2)] 46], .bool (.lit true), [.cells [.bool (.lit true), .int .u64 (.lit 65537), .nilf, .nilf, .nilf, .nilf, .int .i64 (.lit 4), .int .i64 (.lit 2)] 46]⟩
set_option maxRecDepth 1000000 in
theorem klNl42 : runL [lTAx] lNl42 := by intro cs; kernel_rfl
theorem hlNl42 : (lit lNl42).Holds objs Try.prog := lit_holds (callable _ Try.func68 (by kernel_rfl) (by kernel_rfl)) (all_cons hlTAx all_nil) klNl42
def lNl43 : Lit := ⟨20, [.ptr 0 0, .ptr 1 0], [.cells [.bool (.lit true), .int .u64 (.lit 65537), .nilf, .nilf, .nilf, .nilf, .int .i64 (.lit 4), .int .i64 (.lit 2)] 46, .cells [.ptr 2 0, .int .i64 (.lit 34), .int .i64 (.lit 0), .int .i64 (.lit 0), .int .u64 (.lit 0), .int .u64 (.lit 0), .bool (.lit false), .int .i64 (.lit 0)] 120, .sp .u64 116 4096 []], .bool (.lit true), [.cells [.bool (.lit true), .int .u64 (.lit 65537), .nilf, .nilf, .nilf, .nilf, .int .i64 (.lit 4), .int .i64 (.lit 2)] 46, .cells [.ptr 2 0, .int .i64 (.lit 34), .int .i64 (.lit 0), .int .i64 (.lit 0), .int .u64 (.lit 0), .int .u64 (.lit 0), .bool (.lit false), .int .i64 (.lit 0)] 120, .sp .u64 116 4096 []]⟩
set_option maxRecDepth 1000000 in
theorem klNl43 : runL [lNl42, lTAx] lNl43 := by intro cs; kernel_rfl
theorem hlNl43 : (lit lNl43).Holds objs Try.prog := lit_holds (callable _ Try.func20 (by kernel_rfl) (by kernel_rfl)) (all_cons hlNl42 (all_cons hlTAx all_nil)) klNl43
def lNl44 : Lit := ⟨21, [.ptr 0 0], [.cells [.bool (.lit true), .int .u64 (.lit 65537), .nilf, .nilf, .nilf, .nilf, .int .i64 (.lit 4), .int .i64 (.lit 2)] 46], .int .i64 (.lit 2), [.cells [.bool (.lit true), .int .u64 (.lit 65537), .nilf, .nilf, .nilf, .nilf, .int .i64 (.lit 4), .int .i64 (.lit 2)] 46]⟩
set_option maxRecDepth 1000000 in
theorem klNl44 : runL [lNl42, lTAx] lNl44 := by intro cs; kernel_rfl
theorem hlNl44 : (lit lNl44).Holds objs Try.prog := lit_holds (callable _ Try.func21 (by kernel_rfl) (by kernel_rfl)) (all_cons hlNl42 (all_cons hlTAx all_nil)) klNl44
def lNl45 : Lit := ⟨27, [.ptr 0 0], [.cells [.ptr 1 0, .int .i64 (.lit 34), .int .i64 (.lit 0), .int .i64 (.lit 0), .int .u64 (.lit 0), .int .u64 (.lit 0), .bool (.lit false), .int .i64 (.lit 0)] 120, .sp .u64 116 4096 []], .int .i64 (.lit 0), [.cells [.ptr 1 0, .int .i64 (.lit 34), .int .i64 (.lit 0), .int .i64 (.lit 0), .int .u64 (.lit 0), .int .u64 (.lit 0), .bool (.lit false), .int .i64 (.lit 0)] 120, .sp .u64 116 4096 []]⟩
set_option maxRecDepth 1000000 in
theorem klNl45 : runL [lTAx] lNl45 := by intro cs; kernel_rfl
theorem hlNl45 : (lit lNl45).Holds objs Try.prog := lit_holds (callable _ Try.func27 (by kernel_rfl) (by kernel_rfl)) (all_cons hlTAx all_nil) klNl45
def lNl46 : Lit := ⟨64, [.agg [.int .i64 (.lit 16), .int .i64 (.lit 14), .int .i64 (.lit 2), .int .i64 (.lit 0), .int .i64 (.lit 1), .int .i64 (.lit 3), .int .i64 (.lit 4), .int .i64 (.lit 7), .int .i64 (.lit 9), .int .i64 (.lit 8), .int .i64 (.lit 9), .int .i64 (.lit 2), .int .i64 (.lit 11)]], [], .agg [.int .i64 (.lit 14), .int .i64 (.lit 1), .int .i64 (.lit 2)], []⟩
set_option maxRecDepth 1000000 in
theorem klNl46 : runL [lTAx] lNl46 := by intro cs; kernel_rfl
theorem hlNl46 : (lit lNl46).Holds objs Try.prog := lit_holds (callable _ Try.func64 (by kernel_rfl) (by kernel_rfl)) (all_cons hlTAx all_nil) klNl46
def lNl47 : Lit := ⟨67, [.agg [.int .i64 (.lit 14), .int .i64 (.lit 1), .int .i64 (.lit 2)], .int .i64 (.lit 0), .int .i64 (.lit 0)], [], .int .i64 (.lit 14), []⟩
set_option maxRecDepth 1000000 in
theorem klNl47 : runL [lTAx] lNl47 := by intro cs; kernel_rfl
theorem hlNl47 : (lit lNl47).Holds objs Try.prog := lit_holds (callable _ Try.func67 (by kernel_rfl) (by kernel_rfl)) (all_cons hlTAx all_nil) klNl47
def lNl48 : Lit := ⟨14, [.agg [.int .i64 (.lit 16), .int .i64 (.lit 14), .int .i64 (.lit 2), .int .i64 (.lit 0), .int .i64 (.lit 1), .int .i64 (.lit 3), .int .i64 (.lit 4), .int .i64 (.lit 7), .int .i64 (.lit 9), .int .i64 (.lit 8), .int .i64 (.lit 9), .int .i64 (.lit 2), .int .i64 (.lit 11)], .int .i64 (.lit (-1)), .int .i64 (.lit 4)], [], .int .i64 (.lit 14), []⟩
set_option maxRecDepth 1000000 in
theorem klNl48 : runL [lNl10, lNl46, lNl47, lTAx] lNl48 := by intro cs; kernel_rfl
theorem hlNl48 : (lit lNl48).Holds objs Try.prog := lit_holds (callable _ Try.func14 (by kernel_rfl) (by kernel_rfl)) (all_cons hlNl10 (all_cons hlNl46 (all_cons hlNl47 (all_cons hlTAx all_nil)))) klNl48
def lNl49 : Lit := ⟨16, [.agg [.int .i64 (.lit 16), .int .i64 (.lit 14), .int .i64 (.lit 2), .int .i64 (.lit 0), .int .i64 (.lit 1), .int .i64 (.lit 3), .int .i64 (.lit 4), .int .i64 (.lit 7), .int .i64 (.lit 9), .int .i64 (.lit 8), .int .i64 (.lit 9), .int .i64 (.lit 2), .int .i64 (.lit 11)], .int .i64 (.lit (-1)), .int .i64 (.lit 0)], [], .int .i64 (.lit 14), []⟩
set_option maxRecDepth 1000000 in
theorem klNl49 : runL [lNl48, lTAx] lNl49 := by intro cs; kernel_rfl
theorem hlNl49 : (lit lNl49).Holds objs Try.prog := lit_holds (callable _ Try.func16 (by kernel_rfl) (by kernel_rfl)) (all_cons hlNl48 (all_cons hlTAx all_nil)) klNl49
def lNl50 : Lit := ⟨75, [.nils, .agg [.int .i64 (.lit 16), .int .i64 (.lit 14), .int .i64 (.lit 2), .int .i64 (.lit 0), .int .i64 (.lit 1), .int .i64 (.lit 3), .int .i64 (.lit 4), .int .i64 (.lit 7), .int .i64 (.lit 9), .int .i64 (.lit 8), .int .i64 (.lit 9), .int .i64 (.lit 2), .int .i64 (.lit 11)], .int .i64 (.lit 0)], [], .func (.func 100) [] [.ptr 0 0, .ptr 1 0, .ptr 2 0], [.cells [.int .i64 (.lit 16), .int .i64 (.lit 14), .int .i64 (.lit 2), .int .i64 (.lit 0), .int .i64 (.lit 1), .int .i64 (.lit 3), .int .i64 (.lit 4), .int .i64 (.lit 7), .int .i64 (.lit 9), .int .i64 (.lit 8), .int .i64 (.lit 9), .int .i64 (.lit 2), .int .i64 (.lit 11)] 31, .cells [.nils] 124, .cells [.int .i64 (.lit 0)] 3]⟩
set_option maxRecDepth 1000000 in
theorem klNl50 : runL [lTAx] lNl50 := by intro cs; kernel_rfl
theorem hlNl50 : (lit lNl50).Holds objs Try.prog := lit_holds (callable _ Try.func75 (by kernel_rfl) (by kernel_rfl)) (all_cons hlTAx all_nil) klNl50
def lNl51 : Lit := ⟨74, [.nils, .int .i64 (.lit 14)], [], .int .u64 (.lit 0), []⟩
set_option maxRecDepth 1000000 in
theorem klNl51 : runL [lTAx] lNl51 := by intro cs; kernel_rfl
theorem hlNl51 : (lit lNl51).Holds objs Try.prog := lit_holds (callable _ Try.func74 (by kernel_rfl) (by kernel_rfl)) (all_cons hlTAx all_nil) klNl51
def lNl52 : Lit := ⟨70, [.agg [.int .i64 (.lit 16), .int .i64 (.lit 14), .int .i64 (.lit 2), .int .i64 (.lit 0), .int .i64 (.lit 1), .int .i64 (.lit 3), .int .i64 (.lit 4), .int .i64 (.lit 7), .int .i64 (.lit 9), .int .i64 (.lit 8), .int .i64 (.lit 9), .int .i64 (.lit 2), .int .i64 (.lit 11)], .int .u64 (.lit 0)], [], .int .i64 (.lit (-1)), []⟩
set_option maxRecDepth 1000000 in
theorem klNl52 : runL [lTAx] lNl52 := by intro cs; kernel_rfl
theorem hlNl52 : (lit lNl52).Holds objs Try.prog := lit_holds (callable _ Try.func70 (by kernel_rfl) (by kernel_rfl)) (all_cons hlTAx all_nil) klNl52
def lNl53 : Lit := ⟨28, [.agg [.int .i64 (.lit 16), .int .i64 (.lit 14), .int .i64 (.lit 2), .int .i64 (.lit 0), .int .i64 (.lit 1), .int .i64 (.lit 3), .int .i64 (.lit 4), .int .i64 (.lit 7), .int .i64 (.lit 9), .int .i64 (.lit 8), .int .i64 (.lit 9), .int .i64 (.lit 2), .int .i64 (.lit 11)], .int .i64 (.lit 0), .nilp], [], .nils, []⟩
set_option maxRecDepth 1000000 in
theorem klNl53 : runL [lNl49, lNl50, lNl51, lNl52, lTAx] lNl53 := by intro cs; kernel_rfl
theorem hlNl53 : (lit lNl53).Holds objs Try.prog := lit_holds (callable _ Try.func28 (by kernel_rfl) (by kernel_rfl)) (all_cons hlNl49 (all_cons hlNl50 (all_cons hlNl51 (all_cons hlNl52 (all_cons hlTAx all_nil))))) klNl53
def lNl54 : Lit := ⟨29, [.agg [.int .i64 (.lit 16), .int .i64 (.lit 14), .int .i64 (.lit 2), .int .i64 (.lit 0), .int .i64 (.lit 1), .int .i64 (.lit 3), .int .i64 (.lit 4), .int .i64 (.lit 7), .int .i64 (.lit 9), .int .i64 (.lit 8), .int .i64 (.lit 9), .int .i64 (.lit 2), .int .i64 (.lit 11)], .nilp], [], .nils, []⟩
set_option maxRecDepth 1000000 in
theorem klNl54 : runL [lNl10, lNl50, lNl49, lNl51, lNl52, lTAx] lNl54 := by intro cs; kernel_rfl
theorem hlNl54 : (lit lNl54).Holds objs Try.prog := lit_holds (callable _ Try.func29 (by kernel_rfl) (by kernel_rfl)) (all_cons hlNl10 (all_cons hlNl50 (all_cons hlNl49 (all_cons hlNl51 (all_cons hlNl52 (all_cons hlTAx all_nil)))))) klNl54
def lNl55 : Lit := ⟨30, [.agg [.int .i64 (.lit 16), .int .i64 (.lit 14), .int .i64 (.lit 9), .int .i64 (.lit 0), .int .i64 (.lit 1), .int .i64 (.lit 3), .int .i64 (.lit 4), .int .i64 (.lit 7), .int .i64 (.lit 9), .int .i64 (.lit 8), .int .i64 (.lit 9), .int .i64 (.lit 2), .int .i64 (.lit 11)], .ptr 0 0], [.cells [.ptr 1 0, .int .i64 (.lit 34), .int .i64 (.lit 0), .int .i64 (.lit 0), .int .u64 (.lit 0), .int .u64 (.lit 0), .bool (.lit false), .int .i64 (.lit 0)] 120, .sp .u64 116 4096 []], .tuple [], [.cells [.ptr 1 0, .int .i64 (.lit 34), .int .i64 (.lit 0), .int .i64 (.lit 0), .int .u64 (.lit 0), .int .u64 (.lit 0), .bool (.lit false), .int .i64 (.lit 0)] 120, .sp .u64 116 4096 []]⟩
set_option maxRecDepth 1000000 in
theorem klNl55 : runL [lNl13, lTAx] lNl55 := by intro cs; kernel_rfl
theorem hlNl55 : (lit lNl55).Holds objs Try.prog := lit_holds (callable _ Try.func30 (by kernel_rfl) (by kernel_rfl)) (all_cons hlNl13 (all_cons hlTAx all_nil)) klNl55
def lNl56 : Lit := ⟨86, [.nilp, .int .i64 (.lit 2), .int .i64 (.lit 0), .nilp, .func (.func 87) [.agg [.nilp, .int .u64 (.lit 1), .int .u64 (.lit 0)]] []], [], .agg [.int .i64 (.lit 0), .int .i64 (.lit 0), .int .u64 (.lit 0), .int .u64 (.lit 0), .bool (.lit false)], []⟩
set_option maxRecDepth 1000000 in
theorem klNl56 : runL [lTAx] lNl56 := by intro cs; kernel_rfl
theorem hlNl56 : (lit lNl56).Holds objs Try.prog := lit_holds (callable _ Try.func86 (by kernel_rfl) (by kernel_rfl)) (all_cons hlTAx all_nil) klNl56
def lNl57 : Lit := ⟨86, [.nilp, .int .i64 (.lit 2), .int .i64 (.lit 1), .nilp, .func (.func 87) [.agg [.nilp, .int .u64 (.lit 2), .int .u64 (.lit 0)]] []], [], .agg [.int .i64 (.lit 0), .int .i64 (.lit 0), .int .u64 (.lit 0), .int .u64 (.lit 0), .bool (.lit false)], []⟩
set_option maxRecDepth 1000000 in
theorem klNl57 : runL [lTAx] lNl57 := by intro cs; kernel_rfl
theorem hlNl57 : (lit lNl57).Holds objs Try.prog := lit_holds (callable _ Try.func86 (by kernel_rfl) (by kernel_rfl)) (all_cons hlTAx all_nil) klNl57
def lNl58 : Lit := ⟨86, [.nilp, .int .i64 (.lit 2), .int .i64 (.lit 2), .nilp, .func (.func 87) [.agg [.nilp, .int .u64 (.lit 3), .int .u64 (.lit 0)]] []], [], .agg [.int .i64 (.lit 0), .int .i64 (.lit 0), .int .u64 (.lit 0), .int .u64 (.lit 0), .bool (.lit false)], []⟩
set_option maxRecDepth 1000000 in
theorem klNl58 : runL [lTAx] lNl58 := by intro cs; kernel_rfl
theorem hlNl58 : (lit lNl58).Holds objs Try.prog := lit_holds (callable _ Try.func86 (by kernel_rfl) (by kernel_rfl)) (all_cons hlTAx all_nil) klNl58
def lNl59 : Lit := ⟨86, [.nilp, .int .i64 (.lit 2), .int .i64 (.lit 3), .nilp, .func (.func 87) [.agg [.nilp, .int .u64 (.lit 0), .int .u64 (.lit 0)]] []], [], .agg [.int .i64 (.lit 0), .int .i64 (.lit 0), .int .u64 (.lit 0), .int .u64 (.lit 0), .bool (.lit false)], []⟩
set_option maxRecDepth 1000000 in
theorem klNl59 : runL [lTAx] lNl59 := by intro cs; kernel_rfl
theorem hlNl59 : (lit lNl59).Holds objs Try.prog := lit_holds (callable _ Try.func86 (by kernel_rfl) (by kernel_rfl)) (all_cons hlTAx all_nil) klNl59
def lNl60 : Lit := ⟨117, [.agg [.int .i64 (.lit 0), .int .i64 (.lit 1), .int .i64 (.lit 3)], .nilp], [], .tuple [], []⟩
set_option maxRecDepth 1000000 in
theorem klNl60 : runL [lNl56, lNl57, lNl58, lNl59, lTAx] lNl60 := by intro cs; kernel_rfl
theorem hlNl60 : (lit lNl60).Holds objs Try.prog := lit_holds (callable _ Try.func117 (by kernel_rfl) (by kernel_rfl)) (all_cons hlNl56 (all_cons hlNl57 (all_cons hlNl58 (all_cons hlNl59 (all_cons hlTAx all_nil))))) klNl60
def lNl61 : Lit := ⟨86, [.nilp, .int .i64 (.lit 2), .int .i64 (.lit 7), .nilp, .func (.func 87) [.agg [.nilp, .int .u64 (.lit 0), .int .u64 (.lit 0)]] []], [], .agg [.int .i64 (.lit 0), .int .i64 (.lit 0), .int .u64 (.lit 0), .int .u64 (.lit 0), .bool (.lit false)], []⟩
set_option maxRecDepth 1000000 in
theorem klNl61 : runL [lTAx] lNl61 := by intro cs; kernel_rfl
theorem hlNl61 : (lit lNl61).Holds objs Try.prog := lit_holds (callable _ Try.func86 (by kernel_rfl) (by kernel_rfl)) (all_cons hlTAx all_nil) klNl61
def lNl62 : Lit := ⟨86, [.nilp, .int .i64 (.lit 2), .int .i64 (.lit 4), .nilp, .func (.func 87) [.agg [.nilp, .int .u64 (.lit 1), .int .u64 (.lit 0)]] []], [], .agg [.int .i64 (.lit 0), .int .i64 (.lit 0), .int .u64 (.lit 0), .int .u64 (.lit 0), .bool (.lit false)], []⟩
set_option maxRecDepth 1000000 in
theorem klNl62 : runL [lTAx] lNl62 := by intro cs; kernel_rfl
theorem hlNl62 : (lit lNl62).Holds objs Try.prog := lit_holds (callable _ Try.func86 (by kernel_rfl) (by kernel_rfl)) (all_cons hlTAx all_nil) klNl62
def lNl63 : Lit := ⟨86, [.nilp, .int .i64 (.lit 2), .int .i64 (.lit 5), .nilp, .func (.func 87) [.agg [.nilp, .int .u64 (.lit 1), .int .u64 (.lit 0)]] []], [], .agg [.int .i64 (.lit 0), .int .i64 (.lit 0), .int .u64 (.lit 0), .int .u64 (.lit 0), .bool (.lit false)], []⟩
set_option maxRecDepth 1000000 in
theorem klNl63 : runL [lTAx] lNl63 := by intro cs; kernel_rfl
theorem hlNl63 : (lit lNl63).Holds objs Try.prog := lit_holds (callable _ Try.func86 (by kernel_rfl) (by kernel_rfl)) (all_cons hlTAx all_nil) klNl63
def lNl64 : Lit := ⟨86, [.nilp, .int .i64 (.lit 2), .int .i64 (.lit 6), .nilp, .func (.func 87) [.agg [.nilp, .int .u64 (.lit 1), .int .u64 (.lit 0)]] []], [], .agg [.int .i64 (.lit 0), .int .i64 (.lit 0), .int .u64 (.lit 0), .int .u64 (.lit 0), .bool (.lit false)], []⟩
set_option maxRecDepth 1000000 in
theorem klNl64 : runL [lTAx] lNl64 := by intro cs; kernel_rfl
theorem hlNl64 : (lit lNl64).Holds objs Try.prog := lit_holds (callable _ Try.func86 (by kernel_rfl) (by kernel_rfl)) (all_cons hlTAx all_nil) klNl64
def lNl65 : Lit := ⟨101, [.agg [.int .i64 (.lit 0), .int .i64 (.lit 1), .int .i64 (.lit 3), .int .i64 (.lit 4), .int .i64 (.lit 7), .int .i64 (.lit 9)], .nilp], [], .tuple [], []⟩
set_option maxRecDepth 1000000 in
theorem klNl65 : runL [lNl60, lNl61, lNl62, lNl63, lNl64, lTAx] lNl65 := by intro cs; kernel_rfl
theorem hlNl65 : (lit lNl65).Holds objs Try.prog := lit_holds (callable _ Try.func101 (by kernel_rfl) (by kernel_rfl)) (all_cons hlNl60 (all_cons hlNl61 (all_cons hlNl62 (all_cons hlNl63 (all_cons hlNl64 (all_cons hlTAx all_nil)))))) klNl65
def lNl66 : Lit := ⟨86, [.nilp, .int .i64 (.lit 2), .int .i64 (.lit 8), .nilp, .func (.func 87) [.agg [.nilp, .int .u64 (.lit 0), .int .u64 (.lit 0)]] []], [], .agg [.int .i64 (.lit 0), .int .i64 (.lit 0), .int .u64 (.lit 0), .int .u64 (.lit 0), .bool (.lit false)], []⟩
set_option maxRecDepth 1000000 in
theorem klNl66 : runL [lTAx] lNl66 := by intro cs; kernel_rfl
theorem hlNl66 : (lit lNl66).Holds objs Try.prog := lit_holds (callable _ Try.func86 (by kernel_rfl) (by kernel_rfl)) (all_cons hlTAx all_nil) klNl66
def lNl67 : Lit := ⟨86, [.nilp, .int .i64 (.lit 2), .int .i64 (.lit 9), .nilp, .func (.func 87) [.agg [.nilp, .int .u64 (.lit 0), .int .u64 (.lit 0)]] []], [], .agg [.int .i64 (.lit 0), .int .i64 (.lit 0), .int .u64 (.lit 0), .int .u64 (.lit 0), .bool (.lit false)], []⟩
set_option maxRecDepth 1000000 in
theorem klNl67 : runL [lTAx] lNl67 := by intro cs; kernel_rfl
theorem hlNl67 : (lit lNl67).Holds objs Try.prog := lit_holds (callable _ Try.func86 (by kernel_rfl) (by kernel_rfl)) (all_cons hlTAx all_nil) klNl67
def lNl68 : Lit := ⟨86, [.nilp, .int .i64 (.lit 2), .int .i64 (.lit 10), .nilp, .func (.func 87) [.agg [.nilp, .int .u64 (.lit 0), .int .u64 (.lit 0)]] []], [], .agg [.int .i64 (.lit 0), .int .i64 (.lit 0), .int .u64 (.lit 0), .int .u64 (.lit 0), .bool (.lit false)], []⟩
set_option maxRecDepth 1000000 in
theorem klNl68 : runL [lTAx] lNl68 := by intro cs; kernel_rfl
theorem hlNl68 : (lit lNl68).Holds objs Try.prog := lit_holds (callable _ Try.func86 (by kernel_rfl) (by kernel_rfl)) (all_cons hlTAx all_nil) klNl68
def lNl69 : Lit := ⟨102, [.agg [.int .i64 (.lit 8), .int .i64 (.lit 9), .int .i64 (.lit 2)], .nilp], [], .tuple [], []⟩
set_option maxRecDepth 1000000 in
theorem klNl69 : runL [lNl66, lNl67, lNl68, lTAx] lNl69 := by intro cs; kernel_rfl
theorem hlNl69 : (lit lNl69).Holds objs Try.prog := lit_holds (callable _ Try.func102 (by kernel_rfl) (by kernel_rfl)) (all_cons hlNl66 (all_cons hlNl67 (all_cons hlNl68 (all_cons hlTAx all_nil)))) klNl69
def lNl70 : Lit := ⟨103, [.int .i64 (.lit 0), .agg [.int .i64 (.lit 0), .int .i64 (.lit 1), .int .i64 (.lit 3), .int .i64 (.lit 4), .int .i64 (.lit 7), .int .i64 (.lit 9), .int .i64 (.lit 8), .int .i64 (.lit 9), .int .i64 (.lit 2), .int .i64 (.lit 11)]], [], .agg [.int .i64 (.lit 11), .int .i64 (.lit 1), .int .i64 (.lit 3)], []⟩
set_option maxRecDepth 1000000 in
theorem klNl70 : runL [lTAx] lNl70 := by intro cs; kernel_rfl
theorem hlNl70 : (lit lNl70).Holds objs Try.prog := lit_holds (callable _ Try.func103 (by kernel_rfl) (by kernel_rfl)) (all_cons hlTAx all_nil) klNl70
def lNl71 : Lit := ⟨86, [.nilp, .int .i64 (.lit 2), .int .i64 (.lit 11), .nilp, .func (.func 87) [.agg [.nilp, .int .u64 (.lit 0), .int .u64 (.lit 0)]] []], [], .agg [.int .i64 (.lit 0), .int .i64 (.lit 0), .int .u64 (.lit 0), .int .u64 (.lit 0), .bool (.lit false)], []⟩
set_option maxRecDepth 1000000 in
theorem klNl71 : runL [lTAx] lNl71 := by intro cs; kernel_rfl
theorem hlNl71 : (lit lNl71).Holds objs Try.prog := lit_holds (callable _ Try.func86 (by kernel_rfl) (by kernel_rfl)) (all_cons hlTAx all_nil) klNl71
def lNl72 : Lit := ⟨103, [.int .i64 (.lit 1), .agg [.int .i64 (.lit 0), .int .i64 (.lit 1), .int .i64 (.lit 3), .int .i64 (.lit 4), .int .i64 (.lit 7), .int .i64 (.lit 9), .int .i64 (.lit 8), .int .i64 (.lit 9), .int .i64 (.lit 2), .int .i64 (.lit 11)]], [], .agg [.int .i64 (.lit 12), .int .i64 (.lit 1), .int .i64 (.lit 3)], []⟩
set_option maxRecDepth 1000000 in
theorem klNl72 : runL [lTAx] lNl72 := by intro cs; kernel_rfl
theorem hlNl72 : (lit lNl72).Holds objs Try.prog := lit_holds (callable _ Try.func103 (by kernel_rfl) (by kernel_rfl)) (all_cons hlTAx all_nil) klNl72
def lNl73 : Lit := ⟨86, [.nilp, .int .i64 (.lit 2), .int .i64 (.lit 12), .nilp, .func (.func 87) [.agg [.nilp, .int .u64 (.lit 0), .int .u64 (.lit 0)]] []], [], .agg [.int .i64 (.lit 0), .int .i64 (.lit 0), .int .u64 (.lit 0), .int .u64 (.lit 0), .bool (.lit false)], []⟩
set_option maxRecDepth 1000000 in
theorem klNl73 : runL [lTAx] lNl73 := by intro cs; kernel_rfl
theorem hlNl73 : (lit lNl73).Holds objs Try.prog := lit_holds (callable _ Try.func86 (by kernel_rfl) (by kernel_rfl)) (all_cons hlTAx all_nil) klNl73
def lNl74 : Lit := ⟨103, [.int .i64 (.lit 2), .agg [.int .i64 (.lit 0), .int .i64 (.lit 1), .int .i64 (.lit 3), .int .i64 (.lit 4), .int .i64 (.lit 7), .int .i64 (.lit 9), .int .i64 (.lit 8), .int .i64 (.lit 9), .int .i64 (.lit 2), .int .i64 (.lit 11)]], [], .agg [.int .i64 (.lit 13), .int .i64 (.lit 1), .int .i64 (.lit 3)], []⟩
set_option maxRecDepth 1000000 in
theorem klNl74 : runL [lTAx] lNl74 := by intro cs; kernel_rfl
theorem hlNl74 : (lit lNl74).Holds objs Try.prog := lit_holds (callable _ Try.func103 (by kernel_rfl) (by kernel_rfl)) (all_cons hlTAx all_nil) klNl74
def lNl75 : Lit := ⟨86, [.nilp, .int .i64 (.lit 2), .int .i64 (.lit 13), .nilp, .func (.func 87) [.agg [.nilp, .int .u64 (.lit 0), .int .u64 (.lit 0)]] []], [], .agg [.int .i64 (.lit 0), .int .i64 (.lit 0), .int .u64 (.lit 0), .int .u64 (.lit 0), .bool (.lit false)], []⟩
set_option maxRecDepth 1000000 in
theorem klNl75 : runL [lTAx] lNl75 := by intro cs; kernel_rfl
theorem hlNl75 : (lit lNl75).Holds objs Try.prog := lit_holds (callable _ Try.func86 (by kernel_rfl) (by kernel_rfl)) (all_cons hlTAx all_nil) klNl75
def lNl76 : Lit := ⟨77, [.agg [.int .i64 (.lit 0), .int .i64 (.lit 1), .int .i64 (.lit 3), .int .i64 (.lit 4), .int .i64 (.lit 7), .int .i64 (.lit 9), .int .i64 (.lit 8), .int .i64 (.lit 9), .int .i64 (.lit 2), .int .i64 (.lit 11)], .nilp], [], .tuple [], []⟩
set_option maxRecDepth 1000000 in
theorem klNl76 : runL [lNl65, lNl69, lNl70, lNl71, lNl72, lNl73, lNl74, lNl75, lTAx] lNl76 := by intro cs; kernel_rfl
theorem hlNl76 : (lit lNl76).Holds objs Try.prog := lit_holds (callable _ Try.func77 (by kernel_rfl) (by kernel_rfl)) (all_cons hlNl65 (all_cons hlNl69 (all_cons hlNl70 (all_cons hlNl71 (all_cons hlNl72 (all_cons hlNl73 (all_cons hlNl74 (all_cons hlNl75 (all_cons hlTAx all_nil))))))))) klNl76
def lNl77 : Lit := ⟨86, [.nilp, .int .i64 (.lit 2), .int .i64 (.lit 14), .nilp, .func (.func 87) [.agg [.nilp, .int .u64 (.lit 0), .int .u64 (.lit 0)]] []], [], .agg [.int .i64 (.lit 0), .int .i64 (.lit 0), .int .u64 (.lit 0), .int .u64 (.lit 0), .bool (.lit false)], []⟩
set_option maxRecDepth 1000000 in
theorem klNl77 : runL [lTAx] lNl77 := by intro cs; kernel_rfl
theorem hlNl77 : (lit lNl77).Holds objs Try.prog := lit_holds (callable _ Try.func86 (by kernel_rfl) (by kernel_rfl)) (all_cons hlTAx all_nil) klNl77
def lNl78 : Lit := ⟨86, [.nilp, .int .i64 (.lit 2), .int .i64 (.lit 15), .nilp, .func (.func 87) [.agg [.nilp, .int .u64 (.lit 0), .int .u64 (.lit 0)]] []], [], .agg [.int .i64 (.lit 0), .int .i64 (.lit 0), .int .u64 (.lit 0), .int .u64 (.lit 0), .bool (.lit false)], []⟩
set_option maxRecDepth 1000000 in
theorem klNl78 : runL [lTAx] lNl78 := by intro cs; kernel_rfl
theorem hlNl78 : (lit lNl78).Holds objs Try.prog := lit_holds (callable _ Try.func86 (by kernel_rfl) (by kernel_rfl)) (all_cons hlTAx all_nil) klNl78
def lNl79 : Lit := ⟨30, [.agg [.int .i64 (.lit 16), .int .i64 (.lit 14), .int .i64 (.lit 2), .int .i64 (.lit 0), .int .i64 (.lit 1), .int .i64 (.lit 3), .int .i64 (.lit 4), .int .i64 (.lit 7), .int .i64 (.lit 9), .int .i64 (.lit 8), .int .i64 (.lit 9), .int .i64 (.lit 2), .int .i64 (.lit 11)], .nilp], [], .tuple [], []⟩
set_option maxRecDepth 1000000 in
theorem klNl79 : runL [lNl10, lNl76, lNl77, lNl78, lTAx] lNl79 := by intro cs; kernel_rfl
theorem hlNl79 : (lit lNl79).Holds objs Try.prog := lit_holds (callable _ Try.func30 (by kernel_rfl) (by kernel_rfl)) (all_cons hlNl10 (all_cons hlNl76 (all_cons hlNl77 (all_cons hlNl78 (all_cons hlTAx all_nil))))) klNl79
end Go.Proofs.Ytbmbiiiacajolaa
