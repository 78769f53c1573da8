/- Calls of a run whose numbers are all known, as a program of ours printed them. -/
import Derived.Test.YtbmbiiiacajolaaLt
import Derived.Test.YtbmbiiiacajolaaTk1
namespace Go.Proofs.Ytbmbiiiacajolaa
set_option linter.unusedVariables false
set_option linter.unusedSimpArgs false
set_option linter.unusedSectionVars false
open Go Go.RowKit

def lTk40 : Lit := ⟨98, [.slice 0 (.lit 2) (.lit 2), .slice 1 (.lit 2) (.lit 2)], [.cells [.int .i64 (.lit 0), .int .i64 (.lit 16), .int .i64 (.lit 16), .int .i64 (.lit 48)] 154, .cells [.int .i64 (.lit 2), .int .i64 (.lit 0)] 3], .int .u64 (.lit 2), [.cells [.int .i64 (.lit 0), .int .i64 (.lit 16), .int .i64 (.lit 16), .int .i64 (.lit 48)] 154, .cells [.int .i64 (.lit 2), .int .i64 (.lit 0)] 3]⟩
set_option maxRecDepth 1000000 in
theorem klTk40 : runL [lTk38, lTk39] lTk40 := by intro cs; kernel_rfl
theorem hlTk40 : (lit lTk40).Holds objs Try.prog := lit_holds (callable _ Try.func98 (by kernel_rfl) (by kernel_rfl)) (all_cons hlTk38 (all_cons hlTk39 all_nil)) klTk40
def lTk41 : Lit := ⟨128, [.agg [.int .i64 (.lit 1), .int .i64 (.lit 0)]], [], .tuple [.int .u64 (.lit 2), .int .i64 (.lit 0)], []⟩
set_option maxRecDepth 1000000 in
theorem klTk41 : runL [lTk37, lTk27, lTk40] lTk41 := by intro cs; kernel_rfl
theorem hlTk41 : (lit lTk41).Holds objs Try.prog := lit_holds (callable _ Try.func128 (by kernel_rfl) (by kernel_rfl)) (all_cons hlTk37 (all_cons hlTk27 (all_cons hlTk40 all_nil))) klTk41
def lTk42 : Lit := ⟨124, [.int .i64 (.lit 1)], [], .int .u64 (.lit 2), []⟩
set_option maxRecDepth 1000000 in
theorem klTk42 : runL [lTk41] lTk42 := by intro cs; kernel_rfl
theorem hlTk42 : (lit lTk42).Holds objs Try.prog := lit_holds (callable _ Try.func124 (by kernel_rfl) (by kernel_rfl)) (all_cons hlTk41 all_nil) klTk42
def lTk43 : Lit := ⟨85, [.ptr 0 0, .int .i64 (.lit 1)], [.cells [.ptr 1 0, .int .i64 (.lit 34), .int .i64 (.lit 2), .int .i64 (.lit 0), .int .u64 (.lit 0), .int .u64 (.lit 1), .bool (.lit true), .int .i64 (.lit 1)] 120, .sp .u64 116 4096 [(0, 1)]], .ptr 1 1, [.cells [.ptr 1 0, .int .i64 (.lit 34), .int .i64 (.lit 2), .int .i64 (.lit 0), .int .u64 (.lit 0), .int .u64 (.lit 1), .bool (.lit true), .int .i64 (.lit 1)] 120, .sp .u64 116 4096 [(0, 1)]]⟩
set_option maxRecDepth 1000000 in
theorem klTk43 : runL [] lTk43 := by intro cs; kernel_rfl
theorem hlTk43 : (lit lTk43).Holds objs Try.prog := lit_holds (callable _ Try.func85 (by kernel_rfl) (by kernel_rfl)) all_nil klTk43
def lTk44 : Lit := ⟨107, [.ptr 0 1], [.sp .u64 116 4096 [(0, 1)]], .bool (.lit true), [.sp .u64 116 4096 [(0, 1)]]⟩
set_option maxRecDepth 1000000 in
theorem klTk44 : runL [] lTk44 := by intro cs; kernel_rfl
theorem hlTk44 : (lit lTk44).Holds objs Try.prog := lit_holds (callable _ Try.func107 (by kernel_rfl) (by kernel_rfl)) all_nil klTk44
def lTk45 : Lit := ⟨86, [.ptr 0 0, .int .i64 (.lit 2), .int .i64 (.lit 1), .ptr 1 1, .func (.func 87) [.agg [.ptr 1 1, .int .u64 (.lit 2), .int .u64 (.lit 0)]] []], [.cells [.ptr 1 0, .int .i64 (.lit 34), .int .i64 (.lit 2), .int .i64 (.lit 0), .int .u64 (.lit 0), .int .u64 (.lit 1), .bool (.lit true), .int .i64 (.lit 1)] 120, .sp .u64 116 4096 [(0, 1)]], .agg [.int .i64 (.lit 2), .int .i64 (.lit 1), .int .u64 (.lit 0), .int .u64 (.lit 2), .bool (.lit true)], [.cells [.ptr 1 0, .int .i64 (.lit 34), .int .i64 (.lit 2), .int .i64 (.lit 1), .int .u64 (.lit 0), .int .u64 (.lit 2), .bool (.lit true), .int .i64 (.lit 2)] 120, .sp .u64 116 4096 [(0, 1), (1, 2)]]⟩
set_option maxRecDepth 1000000 in
theorem klTk45 : runL [lTk44] lTk45 := by intro cs; kernel_rfl
theorem hlTk45 : (lit lTk45).Holds objs Try.prog := lit_holds (callable _ Try.func86 (by kernel_rfl) (by kernel_rfl)) (all_cons hlTk44 all_nil) klTk45
def lTk46 : Lit := ⟨43, [.ptr 0 0, .int .i64 (.lit 1), .int .u64 (.lit 2)], [.cells [.ptr 1 0, .int .i64 (.lit 34), .int .i64 (.lit 2), .int .i64 (.lit 0), .int .u64 (.lit 0), .int .u64 (.lit 1), .bool (.lit true), .int .i64 (.lit 1)] 120, .sp .u64 116 4096 [(0, 1)]], .tuple [], [.cells [.ptr 1 0, .int .i64 (.lit 34), .int .i64 (.lit 2), .int .i64 (.lit 1), .int .u64 (.lit 0), .int .u64 (.lit 2), .bool (.lit true), .int .i64 (.lit 2)] 120, .sp .u64 116 4096 [(0, 1), (1, 2)]]⟩
set_option maxRecDepth 1000000 in
theorem klTk46 : runL [lTk43, lTk45] lTk46 := by intro cs; kernel_rfl
theorem hlTk46 : (lit lTk46).Holds objs Try.prog := lit_holds (callable _ Try.func43 (by kernel_rfl) (by kernel_rfl)) (all_cons hlTk43 (all_cons hlTk45 all_nil)) klTk46
def lTk47 : Lit := ⟨96, [.slice 0 (.lit 2) (.lit 2)], [.cells [.int .i64 (.lit 2), .int .i64 (.lit (-1)), .int .i64 (.lit 65534), .int .i64 (.lit 0), .int .i64 (.lit 0), .int .i64 (.lit 281474976710655)] 151], .bool (.lit true), [.cells [.int .i64 (.lit 2), .int .i64 (.lit (-1)), .int .i64 (.lit 65534), .int .i64 (.lit 0), .int .i64 (.lit 0), .int .i64 (.lit 281474976710655)] 151]⟩
set_option maxRecDepth 1000000 in
theorem klTk47 : runL [] lTk47 := by intro cs; kernel_rfl
theorem hlTk47 : (lit lTk47).Holds objs Try.prog := lit_holds (callable _ Try.func96 (by kernel_rfl) (by kernel_rfl)) all_nil klTk47
def lTk48 : Lit := ⟨114, [.int .u64 (.lit 0), .agg [.int .i64 (.lit 0), .int .i64 (.lit 16)], .int .i64 (.lit 3)], [], .int .u64 (.lit 3), []⟩
set_option maxRecDepth 1000000 in
theorem klTk48 : runL [] lTk48 := by intro cs; kernel_rfl
theorem hlTk48 : (lit lTk48).Holds objs Try.prog := lit_holds (callable _ Try.func114 (by kernel_rfl) (by kernel_rfl)) all_nil klTk48
def lTk49 : Lit := ⟨114, [.int .u64 (.lit 3), .agg [.int .i64 (.lit 16), .int .i64 (.lit 48)], .int .i64 (.lit 0)], [], .int .u64 (.lit 3), []⟩
set_option maxRecDepth 1000000 in
theorem klTk49 : runL [] lTk49 := by intro cs; kernel_rfl
theorem hlTk49 : (lit lTk49).Holds objs Try.prog := lit_holds (callable _ Try.func114 (by kernel_rfl) (by kernel_rfl)) all_nil klTk49
def lTk50 : Lit := ⟨98, [.slice 0 (.lit 2) (.lit 2), .slice 1 (.lit 2) (.lit 2)], [.cells [.int .i64 (.lit 0), .int .i64 (.lit 16), .int .i64 (.lit 16), .int .i64 (.lit 48)] 154, .cells [.int .i64 (.lit 3), .int .i64 (.lit 0)] 3], .int .u64 (.lit 3), [.cells [.int .i64 (.lit 0), .int .i64 (.lit 16), .int .i64 (.lit 16), .int .i64 (.lit 48)] 154, .cells [.int .i64 (.lit 3), .int .i64 (.lit 0)] 3]⟩
set_option maxRecDepth 1000000 in
theorem klTk50 : runL [lTk48, lTk49] lTk50 := by intro cs; kernel_rfl
theorem hlTk50 : (lit lTk50).Holds objs Try.prog := lit_holds (callable _ Try.func98 (by kernel_rfl) (by kernel_rfl)) (all_cons hlTk48 (all_cons hlTk49 all_nil)) klTk50
def lTk51 : Lit := ⟨128, [.agg [.int .i64 (.lit 2), .int .i64 (.lit 0)]], [], .tuple [.int .u64 (.lit 3), .int .i64 (.lit 0)], []⟩
set_option maxRecDepth 1000000 in
theorem klTk51 : runL [lTk47, lTk27, lTk50] lTk51 := by intro cs; kernel_rfl
theorem hlTk51 : (lit lTk51).Holds objs Try.prog := lit_holds (callable _ Try.func128 (by kernel_rfl) (by kernel_rfl)) (all_cons hlTk47 (all_cons hlTk27 (all_cons hlTk50 all_nil))) klTk51
def lTk52 : Lit := ⟨124, [.int .i64 (.lit 2)], [], .int .u64 (.lit 3), []⟩
set_option maxRecDepth 1000000 in
theorem klTk52 : runL [lTk51] lTk52 := by intro cs; kernel_rfl
theorem hlTk52 : (lit lTk52).Holds objs Try.prog := lit_holds (callable _ Try.func124 (by kernel_rfl) (by kernel_rfl)) (all_cons hlTk51 all_nil) klTk52
def lTk53 : Lit := ⟨85, [.ptr 0 0, .int .i64 (.lit 2)], [.cells [.ptr 1 0, .int .i64 (.lit 34), .int .i64 (.lit 2), .int .i64 (.lit 1), .int .u64 (.lit 0), .int .u64 (.lit 2), .bool (.lit true), .int .i64 (.lit 2)] 120, .sp .u64 116 4096 [(0, 1), (1, 2)]], .ptr 1 2, [.cells [.ptr 1 0, .int .i64 (.lit 34), .int .i64 (.lit 2), .int .i64 (.lit 1), .int .u64 (.lit 0), .int .u64 (.lit 2), .bool (.lit true), .int .i64 (.lit 2)] 120, .sp .u64 116 4096 [(0, 1), (1, 2)]]⟩
set_option maxRecDepth 1000000 in
theorem klTk53 : runL [] lTk53 := by intro cs; kernel_rfl
theorem hlTk53 : (lit lTk53).Holds objs Try.prog := lit_holds (callable _ Try.func85 (by kernel_rfl) (by kernel_rfl)) all_nil klTk53
def lTk54 : Lit := ⟨107, [.ptr 0 2], [.sp .u64 116 4096 [(0, 1), (1, 2)]], .bool (.lit true), [.sp .u64 116 4096 [(0, 1), (1, 2)]]⟩
set_option maxRecDepth 1000000 in
theorem klTk54 : runL [] lTk54 := by intro cs; kernel_rfl
theorem hlTk54 : (lit lTk54).Holds objs Try.prog := lit_holds (callable _ Try.func107 (by kernel_rfl) (by kernel_rfl)) all_nil klTk54
def lTk55 : Lit := ⟨86, [.ptr 0 0, .int .i64 (.lit 2), .int .i64 (.lit 2), .ptr 1 2, .func (.func 87) [.agg [.ptr 1 2, .int .u64 (.lit 3), .int .u64 (.lit 0)]] []], [.cells [.ptr 1 0, .int .i64 (.lit 34), .int .i64 (.lit 2), .int .i64 (.lit 1), .int .u64 (.lit 0), .int .u64 (.lit 2), .bool (.lit true), .int .i64 (.lit 2)] 120, .sp .u64 116 4096 [(0, 1), (1, 2)]], .agg [.int .i64 (.lit 2), .int .i64 (.lit 2), .int .u64 (.lit 0), .int .u64 (.lit 3), .bool (.lit true)], [.cells [.ptr 1 0, .int .i64 (.lit 34), .int .i64 (.lit 2), .int .i64 (.lit 2), .int .u64 (.lit 0), .int .u64 (.lit 3), .bool (.lit true), .int .i64 (.lit 3)] 120, .sp .u64 116 4096 [(0, 1), (1, 2), (2, 3)]]⟩
set_option maxRecDepth 1000000 in
theorem klTk55 : runL [lTk54] lTk55 := by intro cs; kernel_rfl
theorem hlTk55 : (lit lTk55).Holds objs Try.prog := lit_holds (callable _ Try.func86 (by kernel_rfl) (by kernel_rfl)) (all_cons hlTk54 all_nil) klTk55
def lTk56 : Lit := ⟨43, [.ptr 0 0, .int .i64 (.lit 2), .int .u64 (.lit 3)], [.cells [.ptr 1 0, .int .i64 (.lit 34), .int .i64 (.lit 2), .int .i64 (.lit 1), .int .u64 (.lit 0), .int .u64 (.lit 2), .bool (.lit true), .int .i64 (.lit 2)] 120, .sp .u64 116 4096 [(0, 1), (1, 2)]], .tuple [], [.cells [.ptr 1 0, .int .i64 (.lit 34), .int .i64 (.lit 2), .int .i64 (.lit 2), .int .u64 (.lit 0), .int .u64 (.lit 3), .bool (.lit true), .int .i64 (.lit 3)] 120, .sp .u64 116 4096 [(0, 1), (1, 2), (2, 3)]]⟩
set_option maxRecDepth 1000000 in
theorem klTk56 : runL [lTk53, lTk55] lTk56 := by intro cs; kernel_rfl
theorem hlTk56 : (lit lTk56).Holds objs Try.prog := lit_holds (callable _ Try.func43 (by kernel_rfl) (by kernel_rfl)) (all_cons hlTk53 (all_cons hlTk55 all_nil)) klTk56
def lTk57 : Lit := ⟨96, [.slice 0 (.lit 2) (.lit 2)], [.cells [.int .i64 (.lit (-1)), .int .i64 (.lit (-1)), .int .i64 (.lit 65534), .int .i64 (.lit 0), .int .i64 (.lit 0), .int .i64 (.lit 281474976710655)] 151], .bool (.lit true), [.cells [.int .i64 (.lit (-1)), .int .i64 (.lit (-1)), .int .i64 (.lit 65534), .int .i64 (.lit 0), .int .i64 (.lit 0), .int .i64 (.lit 281474976710655)] 151]⟩
set_option maxRecDepth 1000000 in
theorem klTk57 : runL [] lTk57 := by intro cs; kernel_rfl
theorem hlTk57 : (lit lTk57).Holds objs Try.prog := lit_holds (callable _ Try.func96 (by kernel_rfl) (by kernel_rfl)) all_nil klTk57
def lTk58 : Lit := ⟨114, [.int .u64 (.lit 0), .agg [.int .i64 (.lit 0), .int .i64 (.lit 16)], .int .i64 (.lit 0)], [], .int .u64 (.lit 0), []⟩
set_option maxRecDepth 1000000 in
theorem klTk58 : runL [] lTk58 := by intro cs; kernel_rfl
theorem hlTk58 : (lit lTk58).Holds objs Try.prog := lit_holds (callable _ Try.func114 (by kernel_rfl) (by kernel_rfl)) all_nil klTk58
def lTk59 : Lit := ⟨114, [.int .u64 (.lit 0), .agg [.int .i64 (.lit 16), .int .i64 (.lit 48)], .int .i64 (.lit 0)], [], .int .u64 (.lit 0), []⟩
set_option maxRecDepth 1000000 in
theorem klTk59 : runL [] lTk59 := by intro cs; kernel_rfl
theorem hlTk59 : (lit lTk59).Holds objs Try.prog := lit_holds (callable _ Try.func114 (by kernel_rfl) (by kernel_rfl)) all_nil klTk59
def lTk60 : Lit := ⟨98, [.slice 0 (.lit 2) (.lit 2), .slice 1 (.lit 2) (.lit 2)], [.cells [.int .i64 (.lit 0), .int .i64 (.lit 16), .int .i64 (.lit 16), .int .i64 (.lit 48)] 154, .cells [.int .i64 (.lit 0), .int .i64 (.lit 0)] 3], .int .u64 (.lit 0), [.cells [.int .i64 (.lit 0), .int .i64 (.lit 16), .int .i64 (.lit 16), .int .i64 (.lit 48)] 154, .cells [.int .i64 (.lit 0), .int .i64 (.lit 0)] 3]⟩
set_option maxRecDepth 1000000 in
theorem klTk60 : runL [lTk58, lTk59] lTk60 := by intro cs; kernel_rfl
theorem hlTk60 : (lit lTk60).Holds objs Try.prog := lit_holds (callable _ Try.func98 (by kernel_rfl) (by kernel_rfl)) (all_cons hlTk58 (all_cons hlTk59 all_nil)) klTk60
def lTk61 : Lit := ⟨128, [.agg [.int .i64 (.lit (-1)), .int .i64 (.lit 0)]], [], .tuple [.int .u64 (.lit 0), .int .i64 (.lit 0)], []⟩
set_option maxRecDepth 1000000 in
theorem klTk61 : runL [lTk57, lTk27, lTk60] lTk61 := by intro cs; kernel_rfl
theorem hlTk61 : (lit lTk61).Holds objs Try.prog := lit_holds (callable _ Try.func128 (by kernel_rfl) (by kernel_rfl)) (all_cons hlTk57 (all_cons hlTk27 (all_cons hlTk60 all_nil))) klTk61
def lTk62 : Lit := ⟨124, [.int .i64 (.lit (-1))], [], .int .u64 (.lit 0), []⟩
set_option maxRecDepth 1000000 in
theorem klTk62 : runL [lTk61] lTk62 := by intro cs; kernel_rfl
theorem hlTk62 : (lit lTk62).Holds objs Try.prog := lit_holds (callable _ Try.func124 (by kernel_rfl) (by kernel_rfl)) (all_cons hlTk61 all_nil) klTk62
def lTk63 : Lit := ⟨85, [.ptr 0 0, .int .i64 (.lit 3)], [.cells [.ptr 1 0, .int .i64 (.lit 34), .int .i64 (.lit 2), .int .i64 (.lit 2), .int .u64 (.lit 0), .int .u64 (.lit 3), .bool (.lit true), .int .i64 (.lit 3)] 120, .sp .u64 116 4096 [(0, 1), (1, 2), (2, 3)]], .ptr 1 3, [.cells [.ptr 1 0, .int .i64 (.lit 34), .int .i64 (.lit 2), .int .i64 (.lit 2), .int .u64 (.lit 0), .int .u64 (.lit 3), .bool (.lit true), .int .i64 (.lit 3)] 120, .sp .u64 116 4096 [(0, 1), (1, 2), (2, 3)]]⟩
set_option maxRecDepth 1000000 in
theorem klTk63 : runL [] lTk63 := by intro cs; kernel_rfl
theorem hlTk63 : (lit lTk63).Holds objs Try.prog := lit_holds (callable _ Try.func85 (by kernel_rfl) (by kernel_rfl)) all_nil klTk63
def lTk64 : Lit := ⟨107, [.ptr 0 3], [.sp .u64 116 4096 [(0, 1), (1, 2), (2, 3)]], .bool (.lit true), [.sp .u64 116 4096 [(0, 1), (1, 2), (2, 3)]]⟩
set_option maxRecDepth 1000000 in
theorem klTk64 : runL [] lTk64 := by intro cs; kernel_rfl
theorem hlTk64 : (lit lTk64).Holds objs Try.prog := lit_holds (callable _ Try.func107 (by kernel_rfl) (by kernel_rfl)) all_nil klTk64
def lTk65 : Lit := ⟨86, [.ptr 0 0, .int .i64 (.lit 2), .int .i64 (.lit 3), .ptr 1 3, .func (.func 87) [.agg [.ptr 1 3, .int .u64 (.lit 0), .int .u64 (.lit 0)]] []], [.cells [.ptr 1 0, .int .i64 (.lit 34), .int .i64 (.lit 2), .int .i64 (.lit 2), .int .u64 (.lit 0), .int .u64 (.lit 3), .bool (.lit true), .int .i64 (.lit 3)] 120, .sp .u64 116 4096 [(0, 1), (1, 2), (2, 3)]], .agg [.int .i64 (.lit 2), .int .i64 (.lit 3), .int .u64 (.lit 0), .int .u64 (.lit 0), .bool (.lit true)], [.cells [.ptr 1 0, .int .i64 (.lit 34), .int .i64 (.lit 2), .int .i64 (.lit 3), .int .u64 (.lit 0), .int .u64 (.lit 0), .bool (.lit true), .int .i64 (.lit 4)] 120, .sp .u64 116 4096 [(0, 1), (1, 2), (2, 3), (3, 0)]]⟩
set_option maxRecDepth 1000000 in
theorem klTk65 : runL [lTk64] lTk65 := by intro cs; kernel_rfl
theorem hlTk65 : (lit lTk65).Holds objs Try.prog := lit_holds (callable _ Try.func86 (by kernel_rfl) (by kernel_rfl)) (all_cons hlTk64 all_nil) klTk65
def lTk66 : Lit := ⟨43, [.ptr 0 0, .int .i64 (.lit 3), .int .u64 (.lit 0)], [.cells [.ptr 1 0, .int .i64 (.lit 34), .int .i64 (.lit 2), .int .i64 (.lit 2), .int .u64 (.lit 0), .int .u64 (.lit 3), .bool (.lit true), .int .i64 (.lit 3)] 120, .sp .u64 116 4096 [(0, 1), (1, 2), (2, 3)]], .tuple [], [.cells [.ptr 1 0, .int .i64 (.lit 34), .int .i64 (.lit 2), .int .i64 (.lit 3), .int .u64 (.lit 0), .int .u64 (.lit 0), .bool (.lit true), .int .i64 (.lit 4)] 120, .sp .u64 116 4096 [(0, 1), (1, 2), (2, 3), (3, 0)]]⟩
set_option maxRecDepth 1000000 in
theorem klTk66 : runL [lTk63, lTk65] lTk66 := by intro cs; kernel_rfl
theorem hlTk66 : (lit lTk66).Holds objs Try.prog := lit_holds (callable _ Try.func43 (by kernel_rfl) (by kernel_rfl)) (all_cons hlTk63 (all_cons hlTk65 all_nil)) klTk66
def lTk67 : Lit := ⟨117, [.agg [.int .i64 (.lit 0), .int .i64 (.lit 1), .int .i64 (.lit 3)], .ptr 0 0], [.cells [.ptr 1 0, .int .i64 (.lit 34), .int .i64 (.lit 0), .int .i64 (.lit 0), .int .u64 (.lit 0), .int .u64 (.lit 0), .bool (.lit false), .int .i64 (.lit 0)] 120, .sp .u64 116 4096 []], .tuple [], [.cells [.ptr 1 0, .int .i64 (.lit 34), .int .i64 (.lit 2), .int .i64 (.lit 3), .int .u64 (.lit 0), .int .u64 (.lit 0), .bool (.lit true), .int .i64 (.lit 4)] 120, .sp .u64 116 4096 [(0, 1), (1, 2), (2, 3), (3, 0)]]⟩
set_option maxRecDepth 1000000 in
theorem klTk67 : runL [lTk25, lTk32, lTk36, lTk42, lTk46, lTk52, lTk56, lTk62, lTk66] lTk67 := by intro cs; kernel_rfl
theorem hlTk67 : (lit lTk67).Holds objs Try.prog := lit_holds (callable _ Try.func117 (by kernel_rfl) (by kernel_rfl)) (all_cons hlTk25 (all_cons hlTk32 (all_cons hlTk36 (all_cons hlTk42 (all_cons hlTk46 (all_cons hlTk52 (all_cons hlTk56 (all_cons hlTk62 (all_cons hlTk66 all_nil))))))))) klTk67
def lTk68 : Lit := ⟨85, [.ptr 0 0, .int .i64 (.lit 7)], [.cells [.ptr 1 0, .int .i64 (.lit 34), .int .i64 (.lit 2), .int .i64 (.lit 3), .int .u64 (.lit 0), .int .u64 (.lit 0), .bool (.lit true), .int .i64 (.lit 4)] 120, .sp .u64 116 4096 [(0, 1), (1, 2), (2, 3), (3, 0)]], .ptr 1 7, [.cells [.ptr 1 0, .int .i64 (.lit 34), .int .i64 (.lit 2), .int .i64 (.lit 3), .int .u64 (.lit 0), .int .u64 (.lit 0), .bool (.lit true), .int .i64 (.lit 4)] 120, .sp .u64 116 4096 [(0, 1), (1, 2), (2, 3), (3, 0)]]⟩
set_option maxRecDepth 1000000 in
theorem klTk68 : runL [] lTk68 := by intro cs; kernel_rfl
theorem hlTk68 : (lit lTk68).Holds objs Try.prog := lit_holds (callable _ Try.func85 (by kernel_rfl) (by kernel_rfl)) all_nil klTk68
def lTk69 : Lit := ⟨107, [.ptr 0 7], [.sp .u64 116 4096 [(0, 1), (1, 2), (2, 3), (3, 0)]], .bool (.lit true), [.sp .u64 116 4096 [(0, 1), (1, 2), (2, 3), (3, 0)]]⟩
set_option maxRecDepth 1000000 in
theorem klTk69 : runL [] lTk69 := by intro cs; kernel_rfl
theorem hlTk69 : (lit lTk69).Holds objs Try.prog := lit_holds (callable _ Try.func107 (by kernel_rfl) (by kernel_rfl)) all_nil klTk69
def lTk70 : Lit := ⟨86, [.ptr 0 0, .int .i64 (.lit 2), .int .i64 (.lit 7), .ptr 1 7, .func (.func 87) [.agg [.ptr 1 7, .int .u64 (.lit 0), .int .u64 (.lit 0)]] []], [.cells [.ptr 1 0, .int .i64 (.lit 34), .int .i64 (.lit 2), .int .i64 (.lit 3), .int .u64 (.lit 0), .int .u64 (.lit 0), .bool (.lit true), .int .i64 (.lit 4)] 120, .sp .u64 116 4096 [(0, 1), (1, 2), (2, 3), (3, 0)]], .agg [.int .i64 (.lit 2), .int .i64 (.lit 7), .int .u64 (.lit 0), .int .u64 (.lit 0), .bool (.lit true)], [.cells [.ptr 1 0, .int .i64 (.lit 34), .int .i64 (.lit 2), .int .i64 (.lit 7), .int .u64 (.lit 0), .int .u64 (.lit 0), .bool (.lit true), .int .i64 (.lit 5)] 120, .sp .u64 116 4096 [(0, 1), (1, 2), (2, 3), (3, 0), (7, 0)]]⟩
set_option maxRecDepth 1000000 in
theorem klTk70 : runL [lTk69] lTk70 := by intro cs; kernel_rfl
theorem hlTk70 : (lit lTk70).Holds objs Try.prog := lit_holds (callable _ Try.func86 (by kernel_rfl) (by kernel_rfl)) (all_cons hlTk69 all_nil) klTk70
def lTk71 : Lit := ⟨43, [.ptr 0 0, .int .i64 (.lit 7), .int .u64 (.lit 0)], [.cells [.ptr 1 0, .int .i64 (.lit 34), .int .i64 (.lit 2), .int .i64 (.lit 3), .int .u64 (.lit 0), .int .u64 (.lit 0), .bool (.lit true), .int .i64 (.lit 4)] 120, .sp .u64 116 4096 [(0, 1), (1, 2), (2, 3), (3, 0)]], .tuple [], [.cells [.ptr 1 0, .int .i64 (.lit 34), .int .i64 (.lit 2), .int .i64 (.lit 7), .int .u64 (.lit 0), .int .u64 (.lit 0), .bool (.lit true), .int .i64 (.lit 5)] 120, .sp .u64 116 4096 [(0, 1), (1, 2), (2, 3), (3, 0), (7, 0)]]⟩
set_option maxRecDepth 1000000 in
theorem klTk71 : runL [lTk68, lTk70] lTk71 := by intro cs; kernel_rfl
theorem hlTk71 : (lit lTk71).Holds objs Try.prog := lit_holds (callable _ Try.func43 (by kernel_rfl) (by kernel_rfl)) (all_cons hlTk68 (all_cons hlTk70 all_nil)) klTk71
def lTk72 : Lit := ⟨85, [.ptr 0 0, .int .i64 (.lit 4)], [.cells [.ptr 1 0, .int .i64 (.lit 34), .int .i64 (.lit 2), .int .i64 (.lit 7), .int .u64 (.lit 0), .int .u64 (.lit 0), .bool (.lit true), .int .i64 (.lit 5)] 120, .sp .u64 116 4096 [(0, 1), (1, 2), (2, 3), (3, 0), (7, 0)]], .ptr 1 4, [.cells [.ptr 1 0, .int .i64 (.lit 34), .int .i64 (.lit 2), .int .i64 (.lit 7), .int .u64 (.lit 0), .int .u64 (.lit 0), .bool (.lit true), .int .i64 (.lit 5)] 120, .sp .u64 116 4096 [(0, 1), (1, 2), (2, 3), (3, 0), (7, 0)]]⟩
set_option maxRecDepth 1000000 in
theorem klTk72 : runL [] lTk72 := by intro cs; kernel_rfl
theorem hlTk72 : (lit lTk72).Holds objs Try.prog := lit_holds (callable _ Try.func85 (by kernel_rfl) (by kernel_rfl)) all_nil klTk72
def lTk73 : Lit := ⟨107, [.ptr 0 4], [.sp .u64 116 4096 [(0, 1), (1, 2), (2, 3), (3, 0), (7, 0)]], .bool (.lit true), [.sp .u64 116 4096 [(0, 1), (1, 2), (2, 3), (3, 0), (7, 0)]]⟩
set_option maxRecDepth 1000000 in
theorem klTk73 : runL [] lTk73 := by intro cs; kernel_rfl
theorem hlTk73 : (lit lTk73).Holds objs Try.prog := lit_holds (callable _ Try.func107 (by kernel_rfl) (by kernel_rfl)) all_nil klTk73
def lTk74 : Lit := ⟨86, [.ptr 0 0, .int .i64 (.lit 2), .int .i64 (.lit 4), .ptr 1 4, .func (.func 87) [.agg [.ptr 1 4, .int .u64 (.lit 1), .int .u64 (.lit 0)]] []], [.cells [.ptr 1 0, .int .i64 (.lit 34), .int .i64 (.lit 2), .int .i64 (.lit 7), .int .u64 (.lit 0), .int .u64 (.lit 0), .bool (.lit true), .int .i64 (.lit 5)] 120, .sp .u64 116 4096 [(0, 1), (1, 2), (2, 3), (3, 0), (7, 0)]], .agg [.int .i64 (.lit 2), .int .i64 (.lit 4), .int .u64 (.lit 0), .int .u64 (.lit 1), .bool (.lit true)], [.cells [.ptr 1 0, .int .i64 (.lit 34), .int .i64 (.lit 2), .int .i64 (.lit 4), .int .u64 (.lit 0), .int .u64 (.lit 1), .bool (.lit true), .int .i64 (.lit 6)] 120, .sp .u64 116 4096 [(0, 1), (1, 2), (2, 3), (3, 0), (4, 1), (7, 0)]]⟩
set_option maxRecDepth 1000000 in
theorem klTk74 : runL [lTk73] lTk74 := by intro cs; kernel_rfl
theorem hlTk74 : (lit lTk74).Holds objs Try.prog := lit_holds (callable _ Try.func86 (by kernel_rfl) (by kernel_rfl)) (all_cons hlTk73 all_nil) klTk74
def lTk75 : Lit := ⟨43, [.ptr 0 0, .int .i64 (.lit 4), .int .u64 (.lit 1)], [.cells [.ptr 1 0, .int .i64 (.lit 34), .int .i64 (.lit 2), .int .i64 (.lit 7), .int .u64 (.lit 0), .int .u64 (.lit 0), .bool (.lit true), .int .i64 (.lit 5)] 120, .sp .u64 116 4096 [(0, 1), (1, 2), (2, 3), (3, 0), (7, 0)]], .tuple [], [.cells [.ptr 1 0, .int .i64 (.lit 34), .int .i64 (.lit 2), .int .i64 (.lit 4), .int .u64 (.lit 0), .int .u64 (.lit 1), .bool (.lit true), .int .i64 (.lit 6)] 120, .sp .u64 116 4096 [(0, 1), (1, 2), (2, 3), (3, 0), (4, 1), (7, 0)]]⟩
set_option maxRecDepth 1000000 in
theorem klTk75 : runL [lTk72, lTk74] lTk75 := by intro cs; kernel_rfl
theorem hlTk75 : (lit lTk75).Holds objs Try.prog := lit_holds (callable _ Try.func43 (by kernel_rfl) (by kernel_rfl)) (all_cons hlTk72 (all_cons hlTk74 all_nil)) klTk75
def lTk76 : Lit := ⟨85, [.ptr 0 0, .int .i64 (.lit 5)], [.cells [.ptr 1 0, .int .i64 (.lit 34), .int .i64 (.lit 2), .int .i64 (.lit 4), .int .u64 (.lit 0), .int .u64 (.lit 1), .bool (.lit true), .int .i64 (.lit 6)] 120, .sp .u64 116 4096 [(0, 1), (1, 2), (2, 3), (3, 0), (4, 1), (7, 0)]], .ptr 1 5, [.cells [.ptr 1 0, .int .i64 (.lit 34), .int .i64 (.lit 2), .int .i64 (.lit 4), .int .u64 (.lit 0), .int .u64 (.lit 1), .bool (.lit true), .int .i64 (.lit 6)] 120, .sp .u64 116 4096 [(0, 1), (1, 2), (2, 3), (3, 0), (4, 1), (7, 0)]]⟩
set_option maxRecDepth 1000000 in
theorem klTk76 : runL [] lTk76 := by intro cs; kernel_rfl
theorem hlTk76 : (lit lTk76).Holds objs Try.prog := lit_holds (callable _ Try.func85 (by kernel_rfl) (by kernel_rfl)) all_nil klTk76
def lTk77 : Lit := ⟨107, [.ptr 0 5], [.sp .u64 116 4096 [(0, 1), (1, 2), (2, 3), (3, 0), (4, 1), (7, 0)]], .bool (.lit true), [.sp .u64 116 4096 [(0, 1), (1, 2), (2, 3), (3, 0), (4, 1), (7, 0)]]⟩
set_option maxRecDepth 1000000 in
theorem klTk77 : runL [] lTk77 := by intro cs; kernel_rfl
theorem hlTk77 : (lit lTk77).Holds objs Try.prog := lit_holds (callable _ Try.func107 (by kernel_rfl) (by kernel_rfl)) all_nil klTk77
def lTk78 : Lit := ⟨86, [.ptr 0 0, .int .i64 (.lit 2), .int .i64 (.lit 5), .ptr 1 5, .func (.func 87) [.agg [.ptr 1 5, .int .u64 (.lit 1), .int .u64 (.lit 0)]] []], [.cells [.ptr 1 0, .int .i64 (.lit 34), .int .i64 (.lit 2), .int .i64 (.lit 4), .int .u64 (.lit 0), .int .u64 (.lit 1), .bool (.lit true), .int .i64 (.lit 6)] 120, .sp .u64 116 4096 [(0, 1), (1, 2), (2, 3), (3, 0), (4, 1), (7, 0)]], .agg [.int .i64 (.lit 2), .int .i64 (.lit 5), .int .u64 (.lit 0), .int .u64 (.lit 1), .bool (.lit true)], [.cells [.ptr 1 0, .int .i64 (.lit 34), .int .i64 (.lit 2), .int .i64 (.lit 5), .int .u64 (.lit 0), .int .u64 (.lit 1), .bool (.lit true), .int .i64 (.lit 7)] 120, .sp .u64 116 4096 [(0, 1), (1, 2), (2, 3), (3, 0), (4, 1), (5, 1), (7, 0)]]⟩
set_option maxRecDepth 1000000 in
theorem klTk78 : runL [lTk77] lTk78 := by intro cs; kernel_rfl
theorem hlTk78 : (lit lTk78).Holds objs Try.prog := lit_holds (callable _ Try.func86 (by kernel_rfl) (by kernel_rfl)) (all_cons hlTk77 all_nil) klTk78
def lTk79 : Lit := ⟨43, [.ptr 0 0, .int .i64 (.lit 5), .int .u64 (.lit 1)], [.cells [.ptr 1 0, .int .i64 (.lit 34), .int .i64 (.lit 2), .int .i64 (.lit 4), .int .u64 (.lit 0), .int .u64 (.lit 1), .bool (.lit true), .int .i64 (.lit 6)] 120, .sp .u64 116 4096 [(0, 1), (1, 2), (2, 3), (3, 0), (4, 1), (7, 0)]], .tuple [], [.cells [.ptr 1 0, .int .i64 (.lit 34), .int .i64 (.lit 2), .int .i64 (.lit 5), .int .u64 (.lit 0), .int .u64 (.lit 1), .bool (.lit true), .int .i64 (.lit 7)] 120, .sp .u64 116 4096 [(0, 1), (1, 2), (2, 3), (3, 0), (4, 1), (5, 1), (7, 0)]]⟩
set_option maxRecDepth 1000000 in
theorem klTk79 : runL [lTk76, lTk78] lTk79 := by intro cs; kernel_rfl
theorem hlTk79 : (lit lTk79).Holds objs Try.prog := lit_holds (callable _ Try.func43 (by kernel_rfl) (by kernel_rfl)) (all_cons hlTk76 (all_cons hlTk78 all_nil)) klTk79
end Go.Proofs.Ytbmbiiiacajolaa
