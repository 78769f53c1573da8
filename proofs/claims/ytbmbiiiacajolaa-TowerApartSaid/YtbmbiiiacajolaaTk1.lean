/- Calls of a run whose numbers are all known, as a program of ours printed them. -/
import Derived.Test.YtbmbiiiacajolaaLt
namespace Go.Proofs.Ytbmbiiiacajolaa
set_option linter.unusedVariables false
set_option linter.unusedSimpArgs false
set_option linter.unusedSectionVars false
open Go Go.RowKit

def lTk0 : Lit := ⟨23, [], [], .agg [.int .i64 (.lit 16), .int .i64 (.lit 14), .int .i64 (.lit 2), .int .i64 (.lit 0), .int .i64 (.lit 1), .int .i64 (.lit 3), .int .i64 (.lit 4), .int .i64 (.lit 7), .int .i64 (.lit 9), .int .i64 (.lit 8), .int .i64 (.lit 9), .int .i64 (.lit 2), .int .i64 (.lit 11)], []⟩
set_option maxRecDepth 1000000 in
theorem klTk0 : runL [] lTk0 := by intro cs; kernel_rfl
theorem hlTk0 : (lit lTk0).Holds objs Try.prog := lit_holds (callable _ Try.func23 (by kernel_rfl) (by kernel_rfl)) all_nil klTk0
def lTk1 : Lit := ⟨61, [.agg [.int .i64 (.lit 16), .int .i64 (.lit 14), .int .i64 (.lit 2), .int .i64 (.lit 0), .int .i64 (.lit 1), .int .i64 (.lit 3), .int .i64 (.lit 4), .int .i64 (.lit 7), .int .i64 (.lit 9), .int .i64 (.lit 8), .int .i64 (.lit 9), .int .i64 (.lit 2), .int .i64 (.lit 11)]], [], .bool (.lit true), []⟩
set_option maxRecDepth 1000000 in
theorem klTk1 : runL [] lTk1 := by intro cs; kernel_rfl
theorem hlTk1 : (lit lTk1).Holds objs Try.prog := lit_holds (callable _ Try.func61 (by kernel_rfl) (by kernel_rfl)) all_nil klTk1
def lTk2 : Lit := ⟨62, [.agg [.int .i64 (.lit 16), .int .i64 (.lit 14), .int .i64 (.lit 2), .int .i64 (.lit 0), .int .i64 (.lit 1), .int .i64 (.lit 3), .int .i64 (.lit 4), .int .i64 (.lit 7), .int .i64 (.lit 9), .int .i64 (.lit 8), .int .i64 (.lit 9), .int .i64 (.lit 2), .int .i64 (.lit 11)]], [], .agg [.int .i64 (.lit 16), .int .i64 (.lit 3), .int .i64 (.lit 2)], []⟩
set_option maxRecDepth 1000000 in
theorem klTk2 : runL [] lTk2 := by intro cs; kernel_rfl
theorem hlTk2 : (lit lTk2).Holds objs Try.prog := lit_holds (callable _ Try.func62 (by kernel_rfl) (by kernel_rfl)) all_nil klTk2
def lTk3 : Lit := ⟨66, [.agg [.int .i64 (.lit 16), .int .i64 (.lit 3), .int .i64 (.lit 2)], .int .i64 (.lit 2), .int .i64 (.lit 5)], [], .int .i64 (.lit 33), []⟩
set_option maxRecDepth 1000000 in
theorem klTk3 : runL [] lTk3 := by intro cs; kernel_rfl
theorem hlTk3 : (lit lTk3).Holds objs Try.prog := lit_holds (callable _ Try.func66 (by kernel_rfl) (by kernel_rfl)) all_nil klTk3
def lTk4 : Lit := ⟨14, [.agg [.int .i64 (.lit 16), .int .i64 (.lit 14), .int .i64 (.lit 2), .int .i64 (.lit 0), .int .i64 (.lit 1), .int .i64 (.lit 3), .int .i64 (.lit 4), .int .i64 (.lit 7), .int .i64 (.lit 9), .int .i64 (.lit 8), .int .i64 (.lit 9), .int .i64 (.lit 2), .int .i64 (.lit 11)], .int .i64 (.lit 2), .int .i64 (.lit 5)], [], .int .i64 (.lit 33), []⟩
set_option maxRecDepth 1000000 in
theorem klTk4 : runL [lTk1, lTk2, lTk3] lTk4 := by intro cs; kernel_rfl
theorem hlTk4 : (lit lTk4).Holds objs Try.prog := lit_holds (callable _ Try.func14 (by kernel_rfl) (by kernel_rfl)) (all_cons hlTk1 (all_cons hlTk2 (all_cons hlTk3 all_nil))) klTk4
def lTk5 : Lit := ⟨66, [.agg [.int .i64 (.lit 16), .int .i64 (.lit 3), .int .i64 (.lit 2)], .int .i64 (.lit 2), .int .i64 (.lit 6)], [], .int .i64 (.lit (-1)), []⟩
set_option maxRecDepth 1000000 in
theorem klTk5 : runL [] lTk5 := by intro cs; kernel_rfl
theorem hlTk5 : (lit lTk5).Holds objs Try.prog := lit_holds (callable _ Try.func66 (by kernel_rfl) (by kernel_rfl)) all_nil klTk5
def lTk6 : Lit := ⟨14, [.agg [.int .i64 (.lit 16), .int .i64 (.lit 14), .int .i64 (.lit 2), .int .i64 (.lit 0), .int .i64 (.lit 1), .int .i64 (.lit 3), .int .i64 (.lit 4), .int .i64 (.lit 7), .int .i64 (.lit 9), .int .i64 (.lit 8), .int .i64 (.lit 9), .int .i64 (.lit 2), .int .i64 (.lit 11)], .int .i64 (.lit 2), .int .i64 (.lit 6)], [], .int .i64 (.lit (-1)), []⟩
set_option maxRecDepth 1000000 in
theorem klTk6 : runL [lTk1, lTk2, lTk5] lTk6 := by intro cs; kernel_rfl
theorem hlTk6 : (lit lTk6).Holds objs Try.prog := lit_holds (callable _ Try.func14 (by kernel_rfl) (by kernel_rfl)) (all_cons hlTk1 (all_cons hlTk2 (all_cons hlTk5 all_nil))) klTk6
def lTk7 : Lit := ⟨66, [.agg [.int .i64 (.lit 16), .int .i64 (.lit 3), .int .i64 (.lit 2)], .int .i64 (.lit 3), .int .i64 (.lit 0)], [], .int .i64 (.lit (-1)), []⟩
set_option maxRecDepth 1000000 in
theorem klTk7 : runL [] lTk7 := by intro cs; kernel_rfl
theorem hlTk7 : (lit lTk7).Holds objs Try.prog := lit_holds (callable _ Try.func66 (by kernel_rfl) (by kernel_rfl)) all_nil klTk7
def lTk8 : Lit := ⟨14, [.agg [.int .i64 (.lit 16), .int .i64 (.lit 14), .int .i64 (.lit 2), .int .i64 (.lit 0), .int .i64 (.lit 1), .int .i64 (.lit 3), .int .i64 (.lit 4), .int .i64 (.lit 7), .int .i64 (.lit 9), .int .i64 (.lit 8), .int .i64 (.lit 9), .int .i64 (.lit 2), .int .i64 (.lit 11)], .int .i64 (.lit 3), .int .i64 (.lit 0)], [], .int .i64 (.lit (-1)), []⟩
set_option maxRecDepth 1000000 in
theorem klTk8 : runL [lTk1, lTk2, lTk7] lTk8 := by intro cs; kernel_rfl
theorem hlTk8 : (lit lTk8).Holds objs Try.prog := lit_holds (callable _ Try.func14 (by kernel_rfl) (by kernel_rfl)) (all_cons hlTk1 (all_cons hlTk2 (all_cons hlTk7 all_nil))) klTk8
def lTk9 : Lit := ⟨14, [.agg [.int .i64 (.lit 16), .int .i64 (.lit 14), .int .i64 (.lit 2), .int .i64 (.lit 0), .int .i64 (.lit 1), .int .i64 (.lit 3), .int .i64 (.lit 4), .int .i64 (.lit 7), .int .i64 (.lit 9), .int .i64 (.lit 8), .int .i64 (.lit 9), .int .i64 (.lit 2), .int .i64 (.lit 11)], .int .i64 (.lit (-1)), .int .i64 (.lit 0)], [], .int .i64 (.lit (-1)), []⟩
set_option maxRecDepth 1000000 in
theorem klTk9 : runL [lTk1] lTk9 := by intro cs; kernel_rfl
theorem hlTk9 : (lit lTk9).Holds objs Try.prog := lit_holds (callable _ Try.func14 (by kernel_rfl) (by kernel_rfl)) (all_cons hlTk1 all_nil) klTk9
def lTk10 : Lit := ⟨64, [.agg [.int .i64 (.lit 16), .int .i64 (.lit 14), .int .i64 (.lit 2), .int .i64 (.lit 0), .int .i64 (.lit 1), .int .i64 (.lit 3), .int .i64 (.lit 4), .int .i64 (.lit 7), .int .i64 (.lit 9), .int .i64 (.lit 8), .int .i64 (.lit 9), .int .i64 (.lit 2), .int .i64 (.lit 11)]], [], .agg [.int .i64 (.lit 14), .int .i64 (.lit 1), .int .i64 (.lit 2)], []⟩
set_option maxRecDepth 1000000 in
theorem klTk10 : runL [] lTk10 := by intro cs; kernel_rfl
theorem hlTk10 : (lit lTk10).Holds objs Try.prog := lit_holds (callable _ Try.func64 (by kernel_rfl) (by kernel_rfl)) all_nil klTk10
def lTk11 : Lit := ⟨67, [.agg [.int .i64 (.lit 14), .int .i64 (.lit 1), .int .i64 (.lit 2)], .int .i64 (.lit 0), .int .i64 (.lit 1)], [], .int .i64 (.lit 15), []⟩
set_option maxRecDepth 1000000 in
theorem klTk11 : runL [] lTk11 := by intro cs; kernel_rfl
theorem hlTk11 : (lit lTk11).Holds objs Try.prog := lit_holds (callable _ Try.func67 (by kernel_rfl) (by kernel_rfl)) all_nil klTk11
def lTk12 : Lit := ⟨14, [.agg [.int .i64 (.lit 16), .int .i64 (.lit 14), .int .i64 (.lit 2), .int .i64 (.lit 0), .int .i64 (.lit 1), .int .i64 (.lit 3), .int .i64 (.lit 4), .int .i64 (.lit 7), .int .i64 (.lit 9), .int .i64 (.lit 8), .int .i64 (.lit 9), .int .i64 (.lit 2), .int .i64 (.lit 11)], .int .i64 (.lit (-1)), .int .i64 (.lit 5)], [], .int .i64 (.lit 15), []⟩
set_option maxRecDepth 1000000 in
theorem klTk12 : runL [lTk1, lTk10, lTk11] lTk12 := by intro cs; kernel_rfl
theorem hlTk12 : (lit lTk12).Holds objs Try.prog := lit_holds (callable _ Try.func14 (by kernel_rfl) (by kernel_rfl)) (all_cons hlTk1 (all_cons hlTk10 (all_cons hlTk11 all_nil))) klTk12
def lTk13 : Lit := ⟨16, [.agg [.int .i64 (.lit 16), .int .i64 (.lit 14), .int .i64 (.lit 2), .int .i64 (.lit 0), .int .i64 (.lit 1), .int .i64 (.lit 3), .int .i64 (.lit 4), .int .i64 (.lit 7), .int .i64 (.lit 9), .int .i64 (.lit 8), .int .i64 (.lit 9), .int .i64 (.lit 2), .int .i64 (.lit 11)], .int .i64 (.lit (-1)), .int .i64 (.lit 1)], [], .int .i64 (.lit 15), []⟩
set_option maxRecDepth 1000000 in
theorem klTk13 : runL [lTk12] lTk13 := by intro cs; kernel_rfl
theorem hlTk13 : (lit lTk13).Holds objs Try.prog := lit_holds (callable _ Try.func16 (by kernel_rfl) (by kernel_rfl)) (all_cons hlTk12 all_nil) klTk13
def lTk14 : Lit := ⟨66, [.agg [.int .i64 (.lit 16), .int .i64 (.lit 3), .int .i64 (.lit 2)], .int .i64 (.lit 0), .int .i64 (.lit 6)], [], .int .i64 (.lit (-1)), []⟩
set_option maxRecDepth 1000000 in
theorem klTk14 : runL [] lTk14 := by intro cs; kernel_rfl
theorem hlTk14 : (lit lTk14).Holds objs Try.prog := lit_holds (callable _ Try.func66 (by kernel_rfl) (by kernel_rfl)) all_nil klTk14
def lTk15 : Lit := ⟨14, [.agg [.int .i64 (.lit 16), .int .i64 (.lit 14), .int .i64 (.lit 2), .int .i64 (.lit 0), .int .i64 (.lit 1), .int .i64 (.lit 3), .int .i64 (.lit 4), .int .i64 (.lit 7), .int .i64 (.lit 9), .int .i64 (.lit 8), .int .i64 (.lit 9), .int .i64 (.lit 2), .int .i64 (.lit 11)], .int .i64 (.lit 0), .int .i64 (.lit 6)], [], .int .i64 (.lit (-1)), []⟩
set_option maxRecDepth 1000000 in
theorem klTk15 : runL [lTk1, lTk2, lTk14] lTk15 := by intro cs; kernel_rfl
theorem hlTk15 : (lit lTk15).Holds objs Try.prog := lit_holds (callable _ Try.func14 (by kernel_rfl) (by kernel_rfl)) (all_cons hlTk1 (all_cons hlTk2 (all_cons hlTk14 all_nil))) klTk15
def lTk16 : Lit := ⟨16, [.agg [.int .i64 (.lit 16), .int .i64 (.lit 14), .int .i64 (.lit 2), .int .i64 (.lit 0), .int .i64 (.lit 1), .int .i64 (.lit 3), .int .i64 (.lit 4), .int .i64 (.lit 7), .int .i64 (.lit 9), .int .i64 (.lit 8), .int .i64 (.lit 9), .int .i64 (.lit 2), .int .i64 (.lit 11)], .int .i64 (.lit 0), .int .i64 (.lit 2)], [], .int .i64 (.lit (-1)), []⟩
set_option maxRecDepth 1000000 in
theorem klTk16 : runL [lTk15] lTk16 := by intro cs; kernel_rfl
theorem hlTk16 : (lit lTk16).Holds objs Try.prog := lit_holds (callable _ Try.func16 (by kernel_rfl) (by kernel_rfl)) (all_cons hlTk15 all_nil) klTk16
def lTk17 : Lit := ⟨63, [.agg [.int .i64 (.lit 16), .int .i64 (.lit 3), .int .i64 (.lit 2)], .int .i64 (.lit 13)], [], .tuple [.int .i64 (.lit 0), .int .i64 (.lit 0), .bool (.lit false)], []⟩
set_option maxRecDepth 1000000 in
theorem klTk17 : runL [] lTk17 := by intro cs; kernel_rfl
theorem hlTk17 : (lit lTk17).Holds objs Try.prog := lit_holds (callable _ Try.func63 (by kernel_rfl) (by kernel_rfl)) all_nil klTk17
def lTk18 : Lit := ⟨65, [.agg [.int .i64 (.lit 14), .int .i64 (.lit 1), .int .i64 (.lit 2)], .int .i64 (.lit 13)], [], .tuple [.int .i64 (.lit 0), .int .i64 (.lit 0), .bool (.lit false)], []⟩
set_option maxRecDepth 1000000 in
theorem klTk18 : runL [] lTk18 := by intro cs; kernel_rfl
theorem hlTk18 : (lit lTk18).Holds objs Try.prog := lit_holds (callable _ Try.func65 (by kernel_rfl) (by kernel_rfl)) all_nil klTk18
def lTk19 : Lit := ⟨12, [.agg [.int .i64 (.lit 16), .int .i64 (.lit 14), .int .i64 (.lit 2), .int .i64 (.lit 0), .int .i64 (.lit 1), .int .i64 (.lit 3), .int .i64 (.lit 4), .int .i64 (.lit 7), .int .i64 (.lit 9), .int .i64 (.lit 8), .int .i64 (.lit 9), .int .i64 (.lit 2), .int .i64 (.lit 11)], .int .i64 (.lit 13)], [], .tuple [.int .i64 (.lit 0), .int .i64 (.lit 0), .bool (.lit false)], []⟩
set_option maxRecDepth 1000000 in
theorem klTk19 : runL [lTk1, lTk2, lTk17, lTk10, lTk18] lTk19 := by intro cs; kernel_rfl
theorem hlTk19 : (lit lTk19).Holds objs Try.prog := lit_holds (callable _ Try.func12 (by kernel_rfl) (by kernel_rfl)) (all_cons hlTk1 (all_cons hlTk2 (all_cons hlTk17 (all_cons hlTk10 (all_cons hlTk18 all_nil))))) klTk19
def lTk20 : Lit := ⟨63, [.agg [.int .i64 (.lit 16), .int .i64 (.lit 3), .int .i64 (.lit 2)], .int .i64 (.lit 34)], [], .tuple [.int .i64 (.lit 0), .int .i64 (.lit 0), .bool (.lit false)], []⟩
set_option maxRecDepth 1000000 in
theorem klTk20 : runL [] lTk20 := by intro cs; kernel_rfl
theorem hlTk20 : (lit lTk20).Holds objs Try.prog := lit_holds (callable _ Try.func63 (by kernel_rfl) (by kernel_rfl)) all_nil klTk20
def lTk21 : Lit := ⟨65, [.agg [.int .i64 (.lit 14), .int .i64 (.lit 1), .int .i64 (.lit 2)], .int .i64 (.lit 34)], [], .tuple [.int .i64 (.lit 0), .int .i64 (.lit 0), .bool (.lit false)], []⟩
set_option maxRecDepth 1000000 in
theorem klTk21 : runL [] lTk21 := by intro cs; kernel_rfl
theorem hlTk21 : (lit lTk21).Holds objs Try.prog := lit_holds (callable _ Try.func65 (by kernel_rfl) (by kernel_rfl)) all_nil klTk21
def lTk22 : Lit := ⟨12, [.agg [.int .i64 (.lit 16), .int .i64 (.lit 14), .int .i64 (.lit 2), .int .i64 (.lit 0), .int .i64 (.lit 1), .int .i64 (.lit 3), .int .i64 (.lit 4), .int .i64 (.lit 7), .int .i64 (.lit 9), .int .i64 (.lit 8), .int .i64 (.lit 9), .int .i64 (.lit 2), .int .i64 (.lit 11)], .int .i64 (.lit 34)], [], .tuple [.int .i64 (.lit 0), .int .i64 (.lit 0), .bool (.lit false)], []⟩
set_option maxRecDepth 1000000 in
theorem klTk22 : runL [lTk1, lTk2, lTk20, lTk10, lTk21] lTk22 := by intro cs; kernel_rfl
theorem hlTk22 : (lit lTk22).Holds objs Try.prog := lit_holds (callable _ Try.func12 (by kernel_rfl) (by kernel_rfl)) (all_cons hlTk1 (all_cons hlTk2 (all_cons hlTk20 (all_cons hlTk10 (all_cons hlTk21 all_nil))))) klTk22
def lTk23 : Lit := ⟨19, [.int .i64 (.lit 34)], [], .tuple [.ptr 0 0, .int .i64 (.lit 0)], [.cells [.ptr 1 0, .int .i64 (.lit 34), .int .i64 (.lit 0), .int .i64 (.lit 0), .int .u64 (.lit 0), .int .u64 (.lit 0), .bool (.lit false), .int .i64 (.lit 0)] 120, .sp .u64 116 4096 []]⟩
set_option maxRecDepth 1000000 in
theorem klTk23 : runL [] lTk23 := by intro cs; kernel_rfl
theorem hlTk23 : (lit lTk23).Holds objs Try.prog := lit_holds (callable _ Try.func19 (by kernel_rfl) (by kernel_rfl)) all_nil klTk23
def lTk24 : Lit := ⟨116, [.agg [.int .i64 (.lit 0), .int .i64 (.lit 1), .int .i64 (.lit 3), .int .i64 (.lit 4), .int .i64 (.lit 7), .int .i64 (.lit 9)]], [], .bool (.lit true), []⟩
set_option maxRecDepth 1000000 in
theorem klTk24 : runL [] lTk24 := by intro cs; kernel_rfl
theorem hlTk24 : (lit lTk24).Holds objs Try.prog := lit_holds (callable _ Try.func116 (by kernel_rfl) (by kernel_rfl)) all_nil klTk24
def lTk25 : Lit := ⟨123, [.agg [.int .i64 (.lit 0), .int .i64 (.lit 1), .int .i64 (.lit 3)]], [], .bool (.lit true), []⟩
set_option maxRecDepth 1000000 in
theorem klTk25 : runL [] lTk25 := by intro cs; kernel_rfl
theorem hlTk25 : (lit lTk25).Holds objs Try.prog := lit_holds (callable _ Try.func123 (by kernel_rfl) (by kernel_rfl)) all_nil klTk25
def lTk26 : Lit := ⟨96, [.slice 0 (.lit 2) (.lit 2)], [.cells [.int .i64 (.lit 0), .int .i64 (.lit (-1)), .int .i64 (.lit 65534), .int .i64 (.lit 0), .int .i64 (.lit 0), .int .i64 (.lit 281474976710655)] 151], .bool (.lit true), [.cells [.int .i64 (.lit 0), .int .i64 (.lit (-1)), .int .i64 (.lit 65534), .int .i64 (.lit 0), .int .i64 (.lit 0), .int .i64 (.lit 281474976710655)] 151]⟩
set_option maxRecDepth 1000000 in
theorem klTk26 : runL [] lTk26 := by intro cs; kernel_rfl
theorem hlTk26 : (lit lTk26).Holds objs Try.prog := lit_holds (callable _ Try.func96 (by kernel_rfl) (by kernel_rfl)) all_nil klTk26
def lTk27 : Lit := ⟨115, [], [], .agg [.int .i64 (.lit 0), .int .i64 (.lit 16), .int .i64 (.lit 16), .int .i64 (.lit 48)], []⟩
set_option maxRecDepth 1000000 in
theorem klTk27 : runL [] lTk27 := by intro cs; kernel_rfl
theorem hlTk27 : (lit lTk27).Holds objs Try.prog := lit_holds (callable _ Try.func115 (by kernel_rfl) (by kernel_rfl)) all_nil klTk27
def lTk28 : Lit := ⟨114, [.int .u64 (.lit 0), .agg [.int .i64 (.lit 0), .int .i64 (.lit 16)], .int .i64 (.lit 1)], [], .int .u64 (.lit 1), []⟩
set_option maxRecDepth 1000000 in
theorem klTk28 : runL [] lTk28 := by intro cs; kernel_rfl
theorem hlTk28 : (lit lTk28).Holds objs Try.prog := lit_holds (callable _ Try.func114 (by kernel_rfl) (by kernel_rfl)) all_nil klTk28
def lTk29 : Lit := ⟨114, [.int .u64 (.lit 1), .agg [.int .i64 (.lit 16), .int .i64 (.lit 48)], .int .i64 (.lit 0)], [], .int .u64 (.lit 1), []⟩
set_option maxRecDepth 1000000 in
theorem klTk29 : runL [] lTk29 := by intro cs; kernel_rfl
theorem hlTk29 : (lit lTk29).Holds objs Try.prog := lit_holds (callable _ Try.func114 (by kernel_rfl) (by kernel_rfl)) all_nil klTk29
def lTk30 : Lit := ⟨98, [.slice 0 (.lit 2) (.lit 2), .slice 1 (.lit 2) (.lit 2)], [.cells [.int .i64 (.lit 0), .int .i64 (.lit 16), .int .i64 (.lit 16), .int .i64 (.lit 48)] 154, .cells [.int .i64 (.lit 1), .int .i64 (.lit 0)] 3], .int .u64 (.lit 1), [.cells [.int .i64 (.lit 0), .int .i64 (.lit 16), .int .i64 (.lit 16), .int .i64 (.lit 48)] 154, .cells [.int .i64 (.lit 1), .int .i64 (.lit 0)] 3]⟩
set_option maxRecDepth 1000000 in
theorem klTk30 : runL [lTk28, lTk29] lTk30 := by intro cs; kernel_rfl
theorem hlTk30 : (lit lTk30).Holds objs Try.prog := lit_holds (callable _ Try.func98 (by kernel_rfl) (by kernel_rfl)) (all_cons hlTk28 (all_cons hlTk29 all_nil)) klTk30
def lTk31 : Lit := ⟨128, [.agg [.int .i64 (.lit 0), .int .i64 (.lit 0)]], [], .tuple [.int .u64 (.lit 1), .int .i64 (.lit 0)], []⟩
set_option maxRecDepth 1000000 in
theorem klTk31 : runL [lTk26, lTk27, lTk30] lTk31 := by intro cs; kernel_rfl
theorem hlTk31 : (lit lTk31).Holds objs Try.prog := lit_holds (callable _ Try.func128 (by kernel_rfl) (by kernel_rfl)) (all_cons hlTk26 (all_cons hlTk27 (all_cons hlTk30 all_nil))) klTk31
def lTk32 : Lit := ⟨124, [.int .i64 (.lit 0)], [], .int .u64 (.lit 1), []⟩
set_option maxRecDepth 1000000 in
theorem klTk32 : runL [lTk31] lTk32 := by intro cs; kernel_rfl
theorem hlTk32 : (lit lTk32).Holds objs Try.prog := lit_holds (callable _ Try.func124 (by kernel_rfl) (by kernel_rfl)) (all_cons hlTk31 all_nil) klTk32
def lTk33 : Lit := ⟨85, [.ptr 0 0, .int .i64 (.lit 0)], [.cells [.ptr 1 0, .int .i64 (.lit 34), .int .i64 (.lit 0), .int .i64 (.lit 0), .int .u64 (.lit 0), .int .u64 (.lit 0), .bool (.lit false), .int .i64 (.lit 0)] 120, .sp .u64 116 4096 []], .ptr 1 0, [.cells [.ptr 1 0, .int .i64 (.lit 34), .int .i64 (.lit 0), .int .i64 (.lit 0), .int .u64 (.lit 0), .int .u64 (.lit 0), .bool (.lit false), .int .i64 (.lit 0)] 120, .sp .u64 116 4096 []]⟩
set_option maxRecDepth 1000000 in
theorem klTk33 : runL [] lTk33 := by intro cs; kernel_rfl
theorem hlTk33 : (lit lTk33).Holds objs Try.prog := lit_holds (callable _ Try.func85 (by kernel_rfl) (by kernel_rfl)) all_nil klTk33
def lTk34 : Lit := ⟨107, [.ptr 0 0], [.sp .u64 116 4096 []], .bool (.lit true), [.sp .u64 116 4096 []]⟩
set_option maxRecDepth 1000000 in
theorem klTk34 : runL [] lTk34 := by intro cs; kernel_rfl
theorem hlTk34 : (lit lTk34).Holds objs Try.prog := lit_holds (callable _ Try.func107 (by kernel_rfl) (by kernel_rfl)) all_nil klTk34
def lTk35 : Lit := ⟨86, [.ptr 0 0, .int .i64 (.lit 2), .int .i64 (.lit 0), .ptr 1 0, .func (.func 87) [.agg [.ptr 1 0, .int .u64 (.lit 1), .int .u64 (.lit 0)]] []], [.cells [.ptr 1 0, .int .i64 (.lit 34), .int .i64 (.lit 0), .int .i64 (.lit 0), .int .u64 (.lit 0), .int .u64 (.lit 0), .bool (.lit false), .int .i64 (.lit 0)] 120, .sp .u64 116 4096 []], .agg [.int .i64 (.lit 2), .int .i64 (.lit 0), .int .u64 (.lit 0), .int .u64 (.lit 1), .bool (.lit true)], [.cells [.ptr 1 0, .int .i64 (.lit 34), .int .i64 (.lit 2), .int .i64 (.lit 0), .int .u64 (.lit 0), .int .u64 (.lit 1), .bool (.lit true), .int .i64 (.lit 1)] 120, .sp .u64 116 4096 [(0, 1)]]⟩
set_option maxRecDepth 1000000 in
theorem klTk35 : runL [lTk34] lTk35 := by intro cs; kernel_rfl
theorem hlTk35 : (lit lTk35).Holds objs Try.prog := lit_holds (callable _ Try.func86 (by kernel_rfl) (by kernel_rfl)) (all_cons hlTk34 all_nil) klTk35
def lTk36 : Lit := ⟨43, [.ptr 0 0, .int .i64 (.lit 0), .int .u64 (.lit 1)], [.cells [.ptr 1 0, .int .i64 (.lit 34), .int .i64 (.lit 0), .int .i64 (.lit 0), .int .u64 (.lit 0), .int .u64 (.lit 0), .bool (.lit false), .int .i64 (.lit 0)] 120, .sp .u64 116 4096 []], .tuple [], [.cells [.ptr 1 0, .int .i64 (.lit 34), .int .i64 (.lit 2), .int .i64 (.lit 0), .int .u64 (.lit 0), .int .u64 (.lit 1), .bool (.lit true), .int .i64 (.lit 1)] 120, .sp .u64 116 4096 [(0, 1)]]⟩
set_option maxRecDepth 1000000 in
theorem klTk36 : runL [lTk33, lTk35] lTk36 := by intro cs; kernel_rfl
theorem hlTk36 : (lit lTk36).Holds objs Try.prog := lit_holds (callable _ Try.func43 (by kernel_rfl) (by kernel_rfl)) (all_cons hlTk33 (all_cons hlTk35 all_nil)) klTk36
def lTk37 : Lit := ⟨96, [.slice 0 (.lit 2) (.lit 2)], [.cells [.int .i64 (.lit 1), .int .i64 (.lit (-1)), .int .i64 (.lit 65534), .int .i64 (.lit 0), .int .i64 (.lit 0), .int .i64 (.lit 281474976710655)] 151], .bool (.lit true), [.cells [.int .i64 (.lit 1), .int .i64 (.lit (-1)), .int .i64 (.lit 65534), .int .i64 (.lit 0), .int .i64 (.lit 0), .int .i64 (.lit 281474976710655)] 151]⟩
set_option maxRecDepth 1000000 in
theorem klTk37 : runL [] lTk37 := by intro cs; kernel_rfl
theorem hlTk37 : (lit lTk37).Holds objs Try.prog := lit_holds (callable _ Try.func96 (by kernel_rfl) (by kernel_rfl)) all_nil klTk37
def lTk38 : Lit := ⟨114, [.int .u64 (.lit 0), .agg [.int .i64 (.lit 0), .int .i64 (.lit 16)], .int .i64 (.lit 2)], [], .int .u64 (.lit 2), []⟩
set_option maxRecDepth 1000000 in
theorem klTk38 : runL [] lTk38 := by intro cs; kernel_rfl
theorem hlTk38 : (lit lTk38).Holds objs Try.prog := lit_holds (callable _ Try.func114 (by kernel_rfl) (by kernel_rfl)) all_nil klTk38
def lTk39 : Lit := ⟨114, [.int .u64 (.lit 2), .agg [.int .i64 (.lit 16), .int .i64 (.lit 48)], .int .i64 (.lit 0)], [], .int .u64 (.lit 2), []⟩
set_option maxRecDepth 1000000 in
theorem klTk39 : runL [] lTk39 := by intro cs; kernel_rfl
theorem hlTk39 : (lit lTk39).Holds objs Try.prog := lit_holds (callable _ Try.func114 (by kernel_rfl) (by kernel_rfl)) all_nil klTk39
end Go.Proofs.Ytbmbiiiacajolaa
