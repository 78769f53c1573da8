import Derived.Test.YtbmbiiiacajolaaGreatLt
/- Calls of a run whose numbers are all known, as a program of ours printed them. -/
namespace Go.Proofs.YtbmbiiiacajolaaGreat
set_option linter.unusedVariables false
set_option linter.unusedSimpArgs false
set_option linter.unusedSectionVars false
open Go Go.RowKit
def qi (n : Int) : SV := .int .i64 (.lit n)
def qu (n : Int) : SV := .int .u64 (.lit n)
def qt : SV := .bool (.lit true)
def qf : SV := .bool (.lit false)

def lAe0 : Lit := ⟨42, [qi 34], [], .tuple [.ptr 0 0, qi 0], [.cells [.ptr 1 0, qi 34, qi 0, qi 0, qu 0, qu 0, qf, qi 0] 116, .sp .u64 151 4096 []]⟩
set_option maxRecDepth 1000000 in
theorem klAe0 : runL [] lAe0 := by intro cs; kernel_rfl
theorem hlAe0 : (lit lAe0).Holds objs Tryz.prog := lit_holds (callable _ Tryz.func42 (by kernel_rfl) (by kernel_rfl)) all_nil klAe0
def lAe1 : Lit := ⟨89, [], [], .agg [qi 16, qi 14, qi 2, qi 0, qi 1, qi 3, qi 4, qi 7, qi 9, qi 8, qi 9, qi 2, qi 11], []⟩
set_option maxRecDepth 1000000 in
theorem klAe1 : runL [] lAe1 := by intro cs; kernel_rfl
theorem hlAe1 : (lit lAe1).Holds objs Tryz.prog := lit_holds (callable _ Tryz.func89 (by kernel_rfl) (by kernel_rfl)) all_nil klAe1
def lAe2 : Lit := ⟨50, [.ptr 0 0, qi 2, qi 0, .ptr 1 0, .func (.func 51) [.agg [.ptr 1 0, qu 1, qu 0]] []], [.cells [.ptr 1 0, qi 34, qi 0, qi 0, qu 0, qu 0, qf, qi 0] 116, .sp .u64 151 4096 []], .agg [qi 2, qi 0, qu 0, qu 1, qt], [.cells [.ptr 1 0, qi 34, qi 2, qi 0, qu 0, qu 1, qt, qi 1] 116, .sp .u64 151 4096 [(0, 1)]]⟩
set_option maxRecDepth 1000000 in
theorem klAe2 : runL [] lAe2 := by intro cs; kernel_rfl
theorem hlAe2 : (lit lAe2).Holds objs Tryz.prog := lit_holds (callable _ Tryz.func50 (by kernel_rfl) (by kernel_rfl)) all_nil klAe2
def lAe3 : Lit := ⟨11, [.ptr 0 0, qi 0, qu 1], [.cells [.ptr 1 0, qi 34, qi 0, qi 0, qu 0, qu 0, qf, qi 0] 116, .sp .u64 151 4096 []], .tuple [], [.cells [.ptr 1 0, qi 34, qi 2, qi 0, qu 0, qu 1, qt, qi 1] 116, .sp .u64 151 4096 [(0, 1)]]⟩
set_option maxRecDepth 1000000 in
theorem klAe3 : runL [lAe2] lAe3 := by intro cs; kernel_rfl
theorem hlAe3 : (lit lAe3).Holds objs Tryz.prog := lit_holds (callable _ Tryz.func11 (by kernel_rfl) (by kernel_rfl)) (all_cons hlAe2 all_nil) klAe3
def lAe4 : Lit := ⟨50, [.ptr 0 0, qi 2, qi 1, .ptr 1 1, .func (.func 51) [.agg [.ptr 1 1, qu 2, qu 0]] []], [.cells [.ptr 1 0, qi 34, qi 2, qi 0, qu 0, qu 1, qt, qi 1] 116, .sp .u64 151 4096 [(0, 1)]], .agg [qi 2, qi 1, qu 0, qu 2, qt], [.cells [.ptr 1 0, qi 34, qi 2, qi 1, qu 0, qu 2, qt, qi 2] 116, .sp .u64 151 4096 [(0, 1), (1, 2)]]⟩
set_option maxRecDepth 1000000 in
theorem klAe4 : runL [] lAe4 := by intro cs; kernel_rfl
theorem hlAe4 : (lit lAe4).Holds objs Tryz.prog := lit_holds (callable _ Tryz.func50 (by kernel_rfl) (by kernel_rfl)) all_nil klAe4
def lAe5 : Lit := ⟨11, [.ptr 0 0, qi 1, qu 2], [.cells [.ptr 1 0, qi 34, qi 2, qi 0, qu 0, qu 1, qt, qi 1] 116, .sp .u64 151 4096 [(0, 1)]], .tuple [], [.cells [.ptr 1 0, qi 34, qi 2, qi 1, qu 0, qu 2, qt, qi 2] 116, .sp .u64 151 4096 [(0, 1), (1, 2)]]⟩
set_option maxRecDepth 1000000 in
theorem klAe5 : runL [lAe4] lAe5 := by intro cs; kernel_rfl
theorem hlAe5 : (lit lAe5).Holds objs Tryz.prog := lit_holds (callable _ Tryz.func11 (by kernel_rfl) (by kernel_rfl)) (all_cons hlAe4 all_nil) klAe5
def lAe6 : Lit := ⟨50, [.ptr 0 0, qi 2, qi 2, .ptr 1 2, .func (.func 51) [.agg [.ptr 1 2, qu 3, qu 0]] []], [.cells [.ptr 1 0, qi 34, qi 2, qi 1, qu 0, qu 2, qt, qi 2] 116, .sp .u64 151 4096 [(0, 1), (1, 2)]], .agg [qi 2, qi 2, qu 0, qu 3, qt], [.cells [.ptr 1 0, qi 34, qi 2, qi 2, qu 0, qu 3, qt, qi 3] 116, .sp .u64 151 4096 [(0, 1), (1, 2), (2, 3)]]⟩
set_option maxRecDepth 1000000 in
theorem klAe6 : runL [] lAe6 := by intro cs; kernel_rfl
theorem hlAe6 : (lit lAe6).Holds objs Tryz.prog := lit_holds (callable _ Tryz.func50 (by kernel_rfl) (by kernel_rfl)) all_nil klAe6
def lAe7 : Lit := ⟨11, [.ptr 0 0, qi 2, qu 3], [.cells [.ptr 1 0, qi 34, qi 2, qi 1, qu 0, qu 2, qt, qi 2] 116, .sp .u64 151 4096 [(0, 1), (1, 2)]], .tuple [], [.cells [.ptr 1 0, qi 34, qi 2, qi 2, qu 0, qu 3, qt, qi 3] 116, .sp .u64 151 4096 [(0, 1), (1, 2), (2, 3)]]⟩
set_option maxRecDepth 1000000 in
theorem klAe7 : runL [lAe6] lAe7 := by intro cs; kernel_rfl
theorem hlAe7 : (lit lAe7).Holds objs Tryz.prog := lit_holds (callable _ Tryz.func11 (by kernel_rfl) (by kernel_rfl)) (all_cons hlAe6 all_nil) klAe7
def lAe8 : Lit := ⟨50, [.ptr 0 0, qi 2, qi 3, .ptr 1 3, .func (.func 51) [.agg [.ptr 1 3, qu 0, qu 0]] []], [.cells [.ptr 1 0, qi 34, qi 2, qi 2, qu 0, qu 3, qt, qi 3] 116, .sp .u64 151 4096 [(0, 1), (1, 2), (2, 3)]], .agg [qi 2, qi 3, qu 0, qu 0, qt], [.cells [.ptr 1 0, qi 34, qi 2, qi 3, qu 0, qu 0, qt, qi 4] 116, .sp .u64 151 4096 [(0, 1), (1, 2), (2, 3), (3, 0)]]⟩
set_option maxRecDepth 1000000 in
theorem klAe8 : runL [] lAe8 := by intro cs; kernel_rfl
theorem hlAe8 : (lit lAe8).Holds objs Tryz.prog := lit_holds (callable _ Tryz.func50 (by kernel_rfl) (by kernel_rfl)) all_nil klAe8
def lAe9 : Lit := ⟨11, [.ptr 0 0, qi 3, qu 0], [.cells [.ptr 1 0, qi 34, qi 2, qi 2, qu 0, qu 3, qt, qi 3] 116, .sp .u64 151 4096 [(0, 1), (1, 2), (2, 3)]], .tuple [], [.cells [.ptr 1 0, qi 34, qi 2, qi 3, qu 0, qu 0, qt, qi 4] 116, .sp .u64 151 4096 [(0, 1), (1, 2), (2, 3), (3, 0)]]⟩
set_option maxRecDepth 1000000 in
theorem klAe9 : runL [lAe8] lAe9 := by intro cs; kernel_rfl
theorem hlAe9 : (lit lAe9).Holds objs Tryz.prog := lit_holds (callable _ Tryz.func11 (by kernel_rfl) (by kernel_rfl)) (all_cons hlAe8 all_nil) klAe9
def lAe10 : Lit := ⟨50, [.ptr 0 0, qi 2, qi 7, .ptr 1 7, .func (.func 51) [.agg [.ptr 1 7, qu 0, qu 0]] []], [.cells [.ptr 1 0, qi 34, qi 2, qi 3, qu 0, qu 0, qt, qi 4] 116, .sp .u64 151 4096 [(0, 1), (1, 2), (2, 3), (3, 0)]], .agg [qi 2, qi 7, qu 0, qu 0, qt], [.cells [.ptr 1 0, qi 34, qi 2, qi 7, qu 0, qu 0, qt, qi 5] 116, .sp .u64 151 4096 [(0, 1), (1, 2), (2, 3), (3, 0), (7, 0)]]⟩
set_option maxRecDepth 1000000 in
theorem klAe10 : runL [] lAe10 := by intro cs; kernel_rfl
theorem hlAe10 : (lit lAe10).Holds objs Tryz.prog := lit_holds (callable _ Tryz.func50 (by kernel_rfl) (by kernel_rfl)) all_nil klAe10
def lAe11 : Lit := ⟨11, [.ptr 0 0, qi 7, qu 0], [.cells [.ptr 1 0, qi 34, qi 2, qi 3, qu 0, qu 0, qt, qi 4] 116, .sp .u64 151 4096 [(0, 1), (1, 2), (2, 3), (3, 0)]], .tuple [], [.cells [.ptr 1 0, qi 34, qi 2, qi 7, qu 0, qu 0, qt, qi 5] 116, .sp .u64 151 4096 [(0, 1), (1, 2), (2, 3), (3, 0), (7, 0)]]⟩
set_option maxRecDepth 1000000 in
theorem klAe11 : runL [lAe10] lAe11 := by intro cs; kernel_rfl
theorem hlAe11 : (lit lAe11).Holds objs Tryz.prog := lit_holds (callable _ Tryz.func11 (by kernel_rfl) (by kernel_rfl)) (all_cons hlAe10 all_nil) klAe11
def lAe12 : Lit := ⟨50, [.ptr 0 0, qi 2, qi 4, .ptr 1 4, .func (.func 51) [.agg [.ptr 1 4, qu 1, qu 0]] []], [.cells [.ptr 1 0, qi 34, qi 2, qi 7, qu 0, qu 0, qt, qi 5] 116, .sp .u64 151 4096 [(0, 1), (1, 2), (2, 3), (3, 0), (7, 0)]], .agg [qi 2, qi 4, qu 0, qu 1, qt], [.cells [.ptr 1 0, qi 34, qi 2, qi 4, qu 0, qu 1, qt, qi 6] 116, .sp .u64 151 4096 [(0, 1), (1, 2), (2, 3), (3, 0), (4, 1), (7, 0)]]⟩
set_option maxRecDepth 1000000 in
theorem klAe12 : runL [] lAe12 := by intro cs; kernel_rfl
theorem hlAe12 : (lit lAe12).Holds objs Tryz.prog := lit_holds (callable _ Tryz.func50 (by kernel_rfl) (by kernel_rfl)) all_nil klAe12
def lAe13 : Lit := ⟨11, [.ptr 0 0, qi 4, qu 1], [.cells [.ptr 1 0, qi 34, qi 2, qi 7, qu 0, qu 0, qt, qi 5] 116, .sp .u64 151 4096 [(0, 1), (1, 2), (2, 3), (3, 0), (7, 0)]], .tuple [], [.cells [.ptr 1 0, qi 34, qi 2, qi 4, qu 0, qu 1, qt, qi 6] 116, .sp .u64 151 4096 [(0, 1), (1, 2), (2, 3), (3, 0), (4, 1), (7, 0)]]⟩
set_option maxRecDepth 1000000 in
theorem klAe13 : runL [lAe12] lAe13 := by intro cs; kernel_rfl
theorem hlAe13 : (lit lAe13).Holds objs Tryz.prog := lit_holds (callable _ Tryz.func11 (by kernel_rfl) (by kernel_rfl)) (all_cons hlAe12 all_nil) klAe13
def lAe14 : Lit := ⟨50, [.ptr 0 0, qi 2, qi 5, .ptr 1 5, .func (.func 51) [.agg [.ptr 1 5, qu 1, qu 0]] []], [.cells [.ptr 1 0, qi 34, qi 2, qi 4, qu 0, qu 1, qt, qi 6] 116, .sp .u64 151 4096 [(0, 1), (1, 2), (2, 3), (3, 0), (4, 1), (7, 0)]], .agg [qi 2, qi 5, qu 0, qu 1, qt], [.cells [.ptr 1 0, qi 34, qi 2, qi 5, qu 0, qu 1, qt, qi 7] 116, .sp .u64 151 4096 [(0, 1), (1, 2), (2, 3), (3, 0), (4, 1), (5, 1), (7, 0)]]⟩
set_option maxRecDepth 1000000 in
theorem klAe14 : runL [] lAe14 := by intro cs; kernel_rfl
theorem hlAe14 : (lit lAe14).Holds objs Tryz.prog := lit_holds (callable _ Tryz.func50 (by kernel_rfl) (by kernel_rfl)) all_nil klAe14
def lAe15 : Lit := ⟨11, [.ptr 0 0, qi 5, qu 1], [.cells [.ptr 1 0, qi 34, qi 2, qi 4, qu 0, qu 1, qt, qi 6] 116, .sp .u64 151 4096 [(0, 1), (1, 2), (2, 3), (3, 0), (4, 1), (7, 0)]], .tuple [], [.cells [.ptr 1 0, qi 34, qi 2, qi 5, qu 0, qu 1, qt, qi 7] 116, .sp .u64 151 4096 [(0, 1), (1, 2), (2, 3), (3, 0), (4, 1), (5, 1), (7, 0)]]⟩
set_option maxRecDepth 1000000 in
theorem klAe15 : runL [lAe14] lAe15 := by intro cs; kernel_rfl
theorem hlAe15 : (lit lAe15).Holds objs Tryz.prog := lit_holds (callable _ Tryz.func11 (by kernel_rfl) (by kernel_rfl)) (all_cons hlAe14 all_nil) klAe15
def lAe16 : Lit := ⟨50, [.ptr 0 0, qi 2, qi 6, .ptr 1 6, .func (.func 51) [.agg [.ptr 1 6, qu 1, qu 0]] []], [.cells [.ptr 1 0, qi 34, qi 2, qi 5, qu 0, qu 1, qt, qi 7] 116, .sp .u64 151 4096 [(0, 1), (1, 2), (2, 3), (3, 0), (4, 1), (5, 1), (7, 0)]], .agg [qi 2, qi 6, qu 0, qu 1, qt], [.cells [.ptr 1 0, qi 34, qi 2, qi 6, qu 0, qu 1, qt, qi 8] 116, .sp .u64 151 4096 [(0, 1), (1, 2), (2, 3), (3, 0), (4, 1), (5, 1), (6, 1), (7, 0)]]⟩
set_option maxRecDepth 1000000 in
theorem klAe16 : runL [] lAe16 := by intro cs; kernel_rfl
theorem hlAe16 : (lit lAe16).Holds objs Tryz.prog := lit_holds (callable _ Tryz.func50 (by kernel_rfl) (by kernel_rfl)) all_nil klAe16
def lAe17 : Lit := ⟨11, [.ptr 0 0, qi 6, qu 1], [.cells [.ptr 1 0, qi 34, qi 2, qi 5, qu 0, qu 1, qt, qi 7] 116, .sp .u64 151 4096 [(0, 1), (1, 2), (2, 3), (3, 0), (4, 1), (5, 1), (7, 0)]], .tuple [], [.cells [.ptr 1 0, qi 34, qi 2, qi 6, qu 0, qu 1, qt, qi 8] 116, .sp .u64 151 4096 [(0, 1), (1, 2), (2, 3), (3, 0), (4, 1), (5, 1), (6, 1), (7, 0)]]⟩
set_option maxRecDepth 1000000 in
theorem klAe17 : runL [lAe16] lAe17 := by intro cs; kernel_rfl
theorem hlAe17 : (lit lAe17).Holds objs Tryz.prog := lit_holds (callable _ Tryz.func11 (by kernel_rfl) (by kernel_rfl)) (all_cons hlAe16 all_nil) klAe17
def lAe18 : Lit := ⟨131, [.agg [qi 0, qi 1, qi 3, qi 4, qi 7, qi 9], .ptr 0 0], [.cells [.ptr 1 0, qi 34, qi 0, qi 0, qu 0, qu 0, qf, qi 0] 116, .sp .u64 151 4096 []], .tuple [], [.cells [.ptr 1 0, qi 34, qi 2, qi 6, qu 0, qu 1, qt, qi 8] 116, .sp .u64 151 4096 [(0, 1), (1, 2), (2, 3), (3, 0), (4, 1), (5, 1), (6, 1), (7, 0)]]⟩
set_option maxRecDepth 1000000 in
theorem klAe18 : runL [lAe3, lAe5, lAe7, lAe9, lAe11, lAe13, lAe15, lAe17] lAe18 := by intro cs; kernel_rfl
theorem hlAe18 : (lit lAe18).Holds objs Tryz.prog := lit_holds (callable _ Tryz.func131 (by kernel_rfl) (by kernel_rfl)) (all_cons hlAe3 (all_cons hlAe5 (all_cons hlAe7 (all_cons hlAe9 (all_cons hlAe11 (all_cons hlAe13 (all_cons hlAe15 (all_cons hlAe17 all_nil)))))))) klAe18
def lAe19 : Lit := ⟨50, [.ptr 0 0, qi 2, qi 8, .ptr 1 8, .func (.func 51) [.agg [.ptr 1 8, qu 0, qu 0]] []], [.cells [.ptr 1 0, qi 34, qi 2, qi 6, qu 0, qu 1, qt, qi 8] 116, .sp .u64 151 4096 [(0, 1), (1, 2), (2, 3), (3, 0), (4, 1), (5, 1), (6, 1), (7, 0)]], .agg [qi 2, qi 8, qu 0, qu 0, qt], [.cells [.ptr 1 0, qi 34, qi 2, qi 8, qu 0, qu 0, qt, qi 9] 116, .sp .u64 151 4096 [(0, 1), (1, 2), (2, 3), (3, 0), (4, 1), (5, 1), (6, 1), (7, 0), (8, 0)]]⟩
set_option maxRecDepth 1000000 in
theorem klAe19 : runL [] lAe19 := by intro cs; kernel_rfl
theorem hlAe19 : (lit lAe19).Holds objs Tryz.prog := lit_holds (callable _ Tryz.func50 (by kernel_rfl) (by kernel_rfl)) all_nil klAe19
def lAe20 : Lit := ⟨11, [.ptr 0 0, qi 8, qu 0], [.cells [.ptr 1 0, qi 34, qi 2, qi 6, qu 0, qu 1, qt, qi 8] 116, .sp .u64 151 4096 [(0, 1), (1, 2), (2, 3), (3, 0), (4, 1), (5, 1), (6, 1), (7, 0)]], .tuple [], [.cells [.ptr 1 0, qi 34, qi 2, qi 8, qu 0, qu 0, qt, qi 9] 116, .sp .u64 151 4096 [(0, 1), (1, 2), (2, 3), (3, 0), (4, 1), (5, 1), (6, 1), (7, 0), (8, 0)]]⟩
set_option maxRecDepth 1000000 in
theorem klAe20 : runL [lAe19] lAe20 := by intro cs; kernel_rfl
theorem hlAe20 : (lit lAe20).Holds objs Tryz.prog := lit_holds (callable _ Tryz.func11 (by kernel_rfl) (by kernel_rfl)) (all_cons hlAe19 all_nil) klAe20
def lAe21 : Lit := ⟨50, [.ptr 0 0, qi 2, qi 9, .ptr 1 9, .func (.func 51) [.agg [.ptr 1 9, qu 0, qu 0]] []], [.cells [.ptr 1 0, qi 34, qi 2, qi 8, qu 0, qu 0, qt, qi 9] 116, .sp .u64 151 4096 [(0, 1), (1, 2), (2, 3), (3, 0), (4, 1), (5, 1), (6, 1), (7, 0), (8, 0)]], .agg [qi 2, qi 9, qu 0, qu 0, qt], [.cells [.ptr 1 0, qi 34, qi 2, qi 9, qu 0, qu 0, qt, qi 10] 116, .sp .u64 151 4096 [(0, 1), (1, 2), (2, 3), (3, 0), (4, 1), (5, 1), (6, 1), (7, 0), (8, 0), (9, 0)]]⟩
set_option maxRecDepth 1000000 in
theorem klAe21 : runL [] lAe21 := by intro cs; kernel_rfl
theorem hlAe21 : (lit lAe21).Holds objs Tryz.prog := lit_holds (callable _ Tryz.func50 (by kernel_rfl) (by kernel_rfl)) all_nil klAe21
def lAe22 : Lit := ⟨11, [.ptr 0 0, qi 9, qu 0], [.cells [.ptr 1 0, qi 34, qi 2, qi 8, qu 0, qu 0, qt, qi 9] 116, .sp .u64 151 4096 [(0, 1), (1, 2), (2, 3), (3, 0), (4, 1), (5, 1), (6, 1), (7, 0), (8, 0)]], .tuple [], [.cells [.ptr 1 0, qi 34, qi 2, qi 9, qu 0, qu 0, qt, qi 10] 116, .sp .u64 151 4096 [(0, 1), (1, 2), (2, 3), (3, 0), (4, 1), (5, 1), (6, 1), (7, 0), (8, 0), (9, 0)]]⟩
set_option maxRecDepth 1000000 in
theorem klAe22 : runL [lAe21] lAe22 := by intro cs; kernel_rfl
theorem hlAe22 : (lit lAe22).Holds objs Tryz.prog := lit_holds (callable _ Tryz.func11 (by kernel_rfl) (by kernel_rfl)) (all_cons hlAe21 all_nil) klAe22
def lAe23 : Lit := ⟨50, [.ptr 0 0, qi 2, qi 10, .ptr 1 10, .func (.func 51) [.agg [.ptr 1 10, qu 0, qu 0]] []], [.cells [.ptr 1 0, qi 34, qi 2, qi 9, qu 0, qu 0, qt, qi 10] 116, .sp .u64 151 4096 [(0, 1), (1, 2), (2, 3), (3, 0), (4, 1), (5, 1), (6, 1), (7, 0), (8, 0), (9, 0)]], .agg [qi 2, qi 10, qu 0, qu 0, qt], [.cells [.ptr 1 0, qi 34, qi 2, qi 10, qu 0, qu 0, qt, qi 11] 116, .sp .u64 151 4096 [(0, 1), (1, 2), (2, 3), (3, 0), (4, 1), (5, 1), (6, 1), (7, 0), (8, 0), (9, 0), (10, 0)]]⟩
set_option maxRecDepth 1000000 in
theorem klAe23 : runL [] lAe23 := by intro cs; kernel_rfl
theorem hlAe23 : (lit lAe23).Holds objs Tryz.prog := lit_holds (callable _ Tryz.func50 (by kernel_rfl) (by kernel_rfl)) all_nil klAe23
def lAe24 : Lit := ⟨11, [.ptr 0 0, qi 10, qu 0], [.cells [.ptr 1 0, qi 34, qi 2, qi 9, qu 0, qu 0, qt, qi 10] 116, .sp .u64 151 4096 [(0, 1), (1, 2), (2, 3), (3, 0), (4, 1), (5, 1), (6, 1), (7, 0), (8, 0), (9, 0)]], .tuple [], [.cells [.ptr 1 0, qi 34, qi 2, qi 10, qu 0, qu 0, qt, qi 11] 116, .sp .u64 151 4096 [(0, 1), (1, 2), (2, 3), (3, 0), (4, 1), (5, 1), (6, 1), (7, 0), (8, 0), (9, 0), (10, 0)]]⟩
set_option maxRecDepth 1000000 in
theorem klAe24 : runL [lAe23] lAe24 := by intro cs; kernel_rfl
theorem hlAe24 : (lit lAe24).Holds objs Tryz.prog := lit_holds (callable _ Tryz.func11 (by kernel_rfl) (by kernel_rfl)) (all_cons hlAe23 all_nil) klAe24
def lAe25 : Lit := ⟨132, [.agg [qi 8, qi 9, qi 2], .ptr 0 0], [.cells [.ptr 1 0, qi 34, qi 2, qi 6, qu 0, qu 1, qt, qi 8] 116, .sp .u64 151 4096 [(0, 1), (1, 2), (2, 3), (3, 0), (4, 1), (5, 1), (6, 1), (7, 0)]], .tuple [], [.cells [.ptr 1 0, qi 34, qi 2, qi 10, qu 0, qu 0, qt, qi 11] 116, .sp .u64 151 4096 [(0, 1), (1, 2), (2, 3), (3, 0), (4, 1), (5, 1), (6, 1), (7, 0), (8, 0), (9, 0), (10, 0)]]⟩
set_option maxRecDepth 1000000 in
theorem klAe25 : runL [lAe20, lAe22, lAe24] lAe25 := by intro cs; kernel_rfl
theorem hlAe25 : (lit lAe25).Holds objs Tryz.prog := lit_holds (callable _ Tryz.func132 (by kernel_rfl) (by kernel_rfl)) (all_cons hlAe20 (all_cons hlAe22 (all_cons hlAe24 all_nil))) klAe25
def lAe26 : Lit := ⟨50, [.ptr 0 0, qi 2, qi 11, .ptr 1 11, .func (.func 51) [.agg [.ptr 1 11, qu 0, qu 0]] []], [.cells [.ptr 1 0, qi 34, qi 2, qi 10, qu 0, qu 0, qt, qi 11] 116, .sp .u64 151 4096 [(0, 1), (1, 2), (2, 3), (3, 0), (4, 1), (5, 1), (6, 1), (7, 0), (8, 0), (9, 0), (10, 0)]], .agg [qi 2, qi 11, qu 0, qu 0, qt], [.cells [.ptr 1 0, qi 34, qi 2, qi 11, qu 0, qu 0, qt, qi 12] 116, .sp .u64 151 4096 [(0, 1), (1, 2), (2, 3), (3, 0), (4, 1), (5, 1), (6, 1), (7, 0), (8, 0), (9, 0), (10, 0), (11, 0)]]⟩
set_option maxRecDepth 1000000 in
theorem klAe26 : runL [] lAe26 := by intro cs; kernel_rfl
theorem hlAe26 : (lit lAe26).Holds objs Tryz.prog := lit_holds (callable _ Tryz.func50 (by kernel_rfl) (by kernel_rfl)) all_nil klAe26
def lAe27 : Lit := ⟨11, [.ptr 0 0, qi 11, qu 0], [.cells [.ptr 1 0, qi 34, qi 2, qi 10, qu 0, qu 0, qt, qi 11] 116, .sp .u64 151 4096 [(0, 1), (1, 2), (2, 3), (3, 0), (4, 1), (5, 1), (6, 1), (7, 0), (8, 0), (9, 0), (10, 0)]], .tuple [], [.cells [.ptr 1 0, qi 34, qi 2, qi 11, qu 0, qu 0, qt, qi 12] 116, .sp .u64 151 4096 [(0, 1), (1, 2), (2, 3), (3, 0), (4, 1), (5, 1), (6, 1), (7, 0), (8, 0), (9, 0), (10, 0), (11, 0)]]⟩
set_option maxRecDepth 1000000 in
theorem klAe27 : runL [lAe26] lAe27 := by intro cs; kernel_rfl
theorem hlAe27 : (lit lAe27).Holds objs Tryz.prog := lit_holds (callable _ Tryz.func11 (by kernel_rfl) (by kernel_rfl)) (all_cons hlAe26 all_nil) klAe27
def lAe28 : Lit := ⟨50, [.ptr 0 0, qi 2, qi 12, .ptr 1 12, .func (.func 51) [.agg [.ptr 1 12, qu 0, qu 0]] []], [.cells [.ptr 1 0, qi 34, qi 2, qi 11, qu 0, qu 0, qt, qi 12] 116, .sp .u64 151 4096 [(0, 1), (1, 2), (2, 3), (3, 0), (4, 1), (5, 1), (6, 1), (7, 0), (8, 0), (9, 0), (10, 0), (11, 0)]], .agg [qi 2, qi 12, qu 0, qu 0, qt], [.cells [.ptr 1 0, qi 34, qi 2, qi 12, qu 0, qu 0, qt, qi 13] 116, .sp .u64 151 4096 [(0, 1), (1, 2), (2, 3), (3, 0), (4, 1), (5, 1), (6, 1), (7, 0), (8, 0), (9, 0), (10, 0), (11, 0), (12, 0)]]⟩
set_option maxRecDepth 1000000 in
theorem klAe28 : runL [] lAe28 := by intro cs; kernel_rfl
theorem hlAe28 : (lit lAe28).Holds objs Tryz.prog := lit_holds (callable _ Tryz.func50 (by kernel_rfl) (by kernel_rfl)) all_nil klAe28
def lAe29 : Lit := ⟨11, [.ptr 0 0, qi 12, qu 0], [.cells [.ptr 1 0, qi 34, qi 2, qi 11, qu 0, qu 0, qt, qi 12] 116, .sp .u64 151 4096 [(0, 1), (1, 2), (2, 3), (3, 0), (4, 1), (5, 1), (6, 1), (7, 0), (8, 0), (9, 0), (10, 0), (11, 0)]], .tuple [], [.cells [.ptr 1 0, qi 34, qi 2, qi 12, qu 0, qu 0, qt, qi 13] 116, .sp .u64 151 4096 [(0, 1), (1, 2), (2, 3), (3, 0), (4, 1), (5, 1), (6, 1), (7, 0), (8, 0), (9, 0), (10, 0), (11, 0), (12, 0)]]⟩
set_option maxRecDepth 1000000 in
theorem klAe29 : runL [lAe28] lAe29 := by intro cs; kernel_rfl
theorem hlAe29 : (lit lAe29).Holds objs Tryz.prog := lit_holds (callable _ Tryz.func11 (by kernel_rfl) (by kernel_rfl)) (all_cons hlAe28 all_nil) klAe29
def lAe30 : Lit := ⟨50, [.ptr 0 0, qi 2, qi 13, .ptr 1 13, .func (.func 51) [.agg [.ptr 1 13, qu 0, qu 0]] []], [.cells [.ptr 1 0, qi 34, qi 2, qi 12, qu 0, qu 0, qt, qi 13] 116, .sp .u64 151 4096 [(0, 1), (1, 2), (2, 3), (3, 0), (4, 1), (5, 1), (6, 1), (7, 0), (8, 0), (9, 0), (10, 0), (11, 0), (12, 0)]], .agg [qi 2, qi 13, qu 0, qu 0, qt], [.cells [.ptr 1 0, qi 34, qi 2, qi 13, qu 0, qu 0, qt, qi 14] 116, .sp .u64 151 4096 [(0, 1), (1, 2), (2, 3), (3, 0), (4, 1), (5, 1), (6, 1), (7, 0), (8, 0), (9, 0), (10, 0), (11, 0), (12, 0), (13, 0)]]⟩
set_option maxRecDepth 1000000 in
theorem klAe30 : runL [] lAe30 := by intro cs; kernel_rfl
theorem hlAe30 : (lit lAe30).Holds objs Tryz.prog := lit_holds (callable _ Tryz.func50 (by kernel_rfl) (by kernel_rfl)) all_nil klAe30
def lAe31 : Lit := ⟨11, [.ptr 0 0, qi 13, qu 0], [.cells [.ptr 1 0, qi 34, qi 2, qi 12, qu 0, qu 0, qt, qi 13] 116, .sp .u64 151 4096 [(0, 1), (1, 2), (2, 3), (3, 0), (4, 1), (5, 1), (6, 1), (7, 0), (8, 0), (9, 0), (10, 0), (11, 0), (12, 0)]], .tuple [], [.cells [.ptr 1 0, qi 34, qi 2, qi 13, qu 0, qu 0, qt, qi 14] 116, .sp .u64 151 4096 [(0, 1), (1, 2), (2, 3), (3, 0), (4, 1), (5, 1), (6, 1), (7, 0), (8, 0), (9, 0), (10, 0), (11, 0), (12, 0), (13, 0)]]⟩
set_option maxRecDepth 1000000 in
theorem klAe31 : runL [lAe30] lAe31 := by intro cs; kernel_rfl
theorem hlAe31 : (lit lAe31).Holds objs Tryz.prog := lit_holds (callable _ Tryz.func11 (by kernel_rfl) (by kernel_rfl)) (all_cons hlAe30 all_nil) klAe31
def lAe32 : Lit := ⟨107, [.agg [qi 0, qi 1, qi 3, qi 4, qi 7, qi 9, qi 8, qi 9, qi 2, qi 11], .ptr 0 0], [.cells [.ptr 1 0, qi 34, qi 0, qi 0, qu 0, qu 0, qf, qi 0] 116, .sp .u64 151 4096 []], .tuple [], [.cells [.ptr 1 0, qi 34, qi 2, qi 13, qu 0, qu 0, qt, qi 14] 116, .sp .u64 151 4096 [(0, 1), (1, 2), (2, 3), (3, 0), (4, 1), (5, 1), (6, 1), (7, 0), (8, 0), (9, 0), (10, 0), (11, 0), (12, 0), (13, 0)]]⟩
set_option maxRecDepth 1000000 in
theorem klAe32 : runL [lAe18, lAe25, lAe27, lAe29, lAe31] lAe32 := by intro cs; kernel_rfl
theorem hlAe32 : (lit lAe32).Holds objs Tryz.prog := lit_holds (callable _ Tryz.func107 (by kernel_rfl) (by kernel_rfl)) (all_cons hlAe18 (all_cons hlAe25 (all_cons hlAe27 (all_cons hlAe29 (all_cons hlAe31 all_nil))))) klAe32
def lAe33 : Lit := ⟨50, [.ptr 0 0, qi 2, qi 14, .ptr 1 14, .func (.func 51) [.agg [.ptr 1 14, qu 0, qu 0]] []], [.cells [.ptr 1 0, qi 34, qi 2, qi 13, qu 0, qu 0, qt, qi 14] 116, .sp .u64 151 4096 [(0, 1), (1, 2), (2, 3), (3, 0), (4, 1), (5, 1), (6, 1), (7, 0), (8, 0), (9, 0), (10, 0), (11, 0), (12, 0), (13, 0)]], .agg [qi 2, qi 14, qu 0, qu 0, qt], [.cells [.ptr 1 0, qi 34, qi 2, qi 14, qu 0, qu 0, qt, qi 15] 116, .sp .u64 151 4096 [(0, 1), (1, 2), (2, 3), (3, 0), (4, 1), (5, 1), (6, 1), (7, 0), (8, 0), (9, 0), (10, 0), (11, 0), (12, 0), (13, 0), (14, 0)]]⟩
set_option maxRecDepth 1000000 in
theorem klAe33 : runL [] lAe33 := by intro cs; kernel_rfl
theorem hlAe33 : (lit lAe33).Holds objs Tryz.prog := lit_holds (callable _ Tryz.func50 (by kernel_rfl) (by kernel_rfl)) all_nil klAe33
def lAe34 : Lit := ⟨11, [.ptr 0 0, qi 14, qu 0], [.cells [.ptr 1 0, qi 34, qi 2, qi 13, qu 0, qu 0, qt, qi 14] 116, .sp .u64 151 4096 [(0, 1), (1, 2), (2, 3), (3, 0), (4, 1), (5, 1), (6, 1), (7, 0), (8, 0), (9, 0), (10, 0), (11, 0), (12, 0), (13, 0)]], .tuple [], [.cells [.ptr 1 0, qi 34, qi 2, qi 14, qu 0, qu 0, qt, qi 15] 116, .sp .u64 151 4096 [(0, 1), (1, 2), (2, 3), (3, 0), (4, 1), (5, 1), (6, 1), (7, 0), (8, 0), (9, 0), (10, 0), (11, 0), (12, 0), (13, 0), (14, 0)]]⟩
set_option maxRecDepth 1000000 in
theorem klAe34 : runL [lAe33] lAe34 := by intro cs; kernel_rfl
theorem hlAe34 : (lit lAe34).Holds objs Tryz.prog := lit_holds (callable _ Tryz.func11 (by kernel_rfl) (by kernel_rfl)) (all_cons hlAe33 all_nil) klAe34
def lAe35 : Lit := ⟨50, [.ptr 0 0, qi 2, qi 15, .ptr 1 15, .func (.func 51) [.agg [.ptr 1 15, qu 0, qu 0]] []], [.cells [.ptr 1 0, qi 34, qi 2, qi 14, qu 0, qu 0, qt, qi 15] 116, .sp .u64 151 4096 [(0, 1), (1, 2), (2, 3), (3, 0), (4, 1), (5, 1), (6, 1), (7, 0), (8, 0), (9, 0), (10, 0), (11, 0), (12, 0), (13, 0), (14, 0)]], .agg [qi 2, qi 15, qu 0, qu 0, qt], [.cells [.ptr 1 0, qi 34, qi 2, qi 15, qu 0, qu 0, qt, qi 16] 116, .sp .u64 151 4096 [(0, 1), (1, 2), (2, 3), (3, 0), (4, 1), (5, 1), (6, 1), (7, 0), (8, 0), (9, 0), (10, 0), (11, 0), (12, 0), (13, 0), (14, 0), (15, 0)]]⟩
set_option maxRecDepth 1000000 in
theorem klAe35 : runL [] lAe35 := by intro cs; kernel_rfl
theorem hlAe35 : (lit lAe35).Holds objs Tryz.prog := lit_holds (callable _ Tryz.func50 (by kernel_rfl) (by kernel_rfl)) all_nil klAe35
def lAe36 : Lit := ⟨11, [.ptr 0 0, qi 15, qu 0], [.cells [.ptr 1 0, qi 34, qi 2, qi 14, qu 0, qu 0, qt, qi 15] 116, .sp .u64 151 4096 [(0, 1), (1, 2), (2, 3), (3, 0), (4, 1), (5, 1), (6, 1), (7, 0), (8, 0), (9, 0), (10, 0), (11, 0), (12, 0), (13, 0), (14, 0)]], .tuple [], [.cells [.ptr 1 0, qi 34, qi 2, qi 15, qu 0, qu 0, qt, qi 16] 116, .sp .u64 151 4096 [(0, 1), (1, 2), (2, 3), (3, 0), (4, 1), (5, 1), (6, 1), (7, 0), (8, 0), (9, 0), (10, 0), (11, 0), (12, 0), (13, 0), (14, 0), (15, 0)]]⟩
set_option maxRecDepth 1000000 in
theorem klAe36 : runL [lAe35] lAe36 := by intro cs; kernel_rfl
theorem hlAe36 : (lit lAe36).Holds objs Tryz.prog := lit_holds (callable _ Tryz.func11 (by kernel_rfl) (by kernel_rfl)) (all_cons hlAe35 all_nil) klAe36
def lAe37 : Lit := ⟨44, [.agg [qi 16, qi 14, qi 2, qi 0, qi 1, qi 3, qi 4, qi 7, qi 9, qi 8, qi 9, qi 2, qi 11], .ptr 0 0], [.cells [.ptr 1 0, qi 34, qi 0, qi 0, qu 0, qu 0, qf, qi 0] 116, .sp .u64 151 4096 []], .tuple [], [.cells [.ptr 1 0, qi 34, qi 2, qi 15, qu 0, qu 0, qt, qi 16] 116, .sp .u64 151 4096 [(0, 1), (1, 2), (2, 3), (3, 0), (4, 1), (5, 1), (6, 1), (7, 0), (8, 0), (9, 0), (10, 0), (11, 0), (12, 0), (13, 0), (14, 0), (15, 0)]]⟩
set_option maxRecDepth 1000000 in
theorem klAe37 : runL [lAe32, lAe34, lAe36] lAe37 := by intro cs; kernel_rfl
theorem hlAe37 : (lit lAe37).Holds objs Tryz.prog := lit_holds (callable _ Tryz.func44 (by kernel_rfl) (by kernel_rfl)) (all_cons hlAe32 (all_cons hlAe34 (all_cons hlAe36 all_nil))) klAe37
def lAe38 : Lit := ⟨126, [qu 65538], [], .tuple [.agg [qi 1, qi 1, qf], qi 0], []⟩
set_option maxRecDepth 1000000 in
theorem klAe38 : runL [] lAe38 := by intro cs; kernel_rfl
theorem hlAe38 : (lit lAe38).Holds objs Tryz.prog := lit_holds (callable _ Tryz.func126 (by kernel_rfl) (by kernel_rfl)) all_nil klAe38
def lAe39 : Lit := ⟨95, [.agg [qi 16, qi 14, qi 2, qi 0, qi 1, qi 3, qi 4, qi 7, qi 9, qi 8, qi 9, qi 2, qi 11], qu 65538, qi 5, qi 2], [], qi 0, []⟩
set_option maxRecDepth 1000000 in
theorem klAe39 : runL [lAe38] lAe39 := by intro cs; kernel_rfl
theorem hlAe39 : (lit lAe39).Holds objs Tryz.prog := lit_holds (callable _ Tryz.func95 (by kernel_rfl) (by kernel_rfl)) (all_cons hlAe38 all_nil) klAe39
end Go.Proofs.YtbmbiiiacajolaaGreat
/- Calls of a run whose numbers are all known, as a program of ours printed them. -/
namespace Go.Proofs.YtbmbiiiacajolaaGreat
set_option linter.unusedVariables false
set_option linter.unusedSimpArgs false
set_option linter.unusedSectionVars false
open Go Go.RowKit

def lAe40 : Lit := ⟨111, [qu 65538], [], .tuple [.agg [qi 1, qi 1], qi 0], []⟩
set_option maxRecDepth 1000000 in
theorem klAe40 : runL [] lAe40 := by intro cs; kernel_rfl
theorem hlAe40 : (lit lAe40).Holds objs Tryz.prog := lit_holds (callable _ Tryz.func111 (by kernel_rfl) (by kernel_rfl)) all_nil klAe40
def lAe41 : Lit := ⟨27, [.agg [qi 16, qi 14, qi 2, qi 0, qi 1, qi 3, qi 4, qi 7, qi 9, qi 8, qi 9, qi 2, qi 11], qu 65538, qu 7, qi 5, qi 2], [], .ptr 0 0, [.cells [qt, qu 65538, .func (.func 98) [] [.ptr 1 0, .ptr 2 0, .ptr 3 0, .ptr 4 0], .func (.func 98) [] [.ptr 1 0, .ptr 2 0, .ptr 5 0, .ptr 6 0], .func (.func 98) [] [.ptr 1 0, .ptr 2 0, .ptr 7 0, .ptr 8 0], .func (.func 98) [] [.ptr 1 0, .ptr 2 0, .ptr 9 0, .ptr 10 0], qi 0, qi 0] 141, .cells [qi 16, qi 14, qi 2, qi 0, qi 1, qi 3, qi 4, qi 7, qi 9, qi 8, qi 9, qi 2, qi 11] 31, .cells [qi 1] 3, .cells [qi 0] 3, .cells [qu 7] 43, .cells [qi 1] 3, .cells [qu 5] 43, .cells [qi 2] 3, .cells [qu 2] 43, .cells [qi 3] 3, .cells [qu 2] 43]⟩
set_option maxRecDepth 1000000 in
theorem klAe41 : runL [lAe39, lAe40] lAe41 := by intro cs; kernel_rfl
theorem hlAe41 : (lit lAe41).Holds objs Tryz.prog := lit_holds (callable _ Tryz.func27 (by kernel_rfl) (by kernel_rfl)) (all_cons hlAe39 (all_cons hlAe40 all_nil)) klAe41
def lAe42 : Lit := ⟨58, [.agg [qi 16, qi 14, qi 2, qi 0, qi 1, qi 3, qi 4, qi 7, qi 9, qi 8, qi 9, qi 2, qi 11], qi 1, qi 0], [], qi 22, []⟩
set_option maxRecDepth 1000000 in
theorem klAe42 : runL [] lAe42 := by intro cs; kernel_rfl
theorem hlAe42 : (lit lAe42).Holds objs Tryz.prog := lit_holds (callable _ Tryz.func58 (by kernel_rfl) (by kernel_rfl)) all_nil klAe42
def lAe43 : Lit := ⟨50, [.ptr 0 0, qi 2, qi 22, .ptr 1 22, .func (.func 51) [.agg [.ptr 1 22, qu 7, qu 0]] []], [.cells [.ptr 1 0, qi 34, qi 2, qi 15, qu 0, qu 0, qt, qi 16] 116, .sp .u64 151 4096 [(0, 1), (1, 2), (2, 3), (3, 0), (4, 1), (5, 1), (6, 1), (7, 0), (8, 0), (9, 0), (10, 0), (11, 0), (12, 0), (13, 0), (14, 0), (15, 0)]], .agg [qi 2, qi 22, qu 0, qu 7, qt], [.cells [.ptr 1 0, qi 34, qi 2, qi 22, qu 0, qu 7, qt, qi 17] 116, .sp .u64 151 4096 [(0, 1), (1, 2), (2, 3), (3, 0), (4, 1), (5, 1), (6, 1), (7, 0), (8, 0), (9, 0), (10, 0), (11, 0), (12, 0), (13, 0), (14, 0), (15, 0), (22, 7)]]⟩
set_option maxRecDepth 1000000 in
theorem klAe43 : runL [] lAe43 := by intro cs; kernel_rfl
theorem hlAe43 : (lit lAe43).Holds objs Tryz.prog := lit_holds (callable _ Tryz.func50 (by kernel_rfl) (by kernel_rfl)) all_nil klAe43
def lAe44 : Lit := ⟨11, [.ptr 0 0, qi 22, qu 7], [.cells [.ptr 1 0, qi 34, qi 2, qi 15, qu 0, qu 0, qt, qi 16] 116, .sp .u64 151 4096 [(0, 1), (1, 2), (2, 3), (3, 0), (4, 1), (5, 1), (6, 1), (7, 0), (8, 0), (9, 0), (10, 0), (11, 0), (12, 0), (13, 0), (14, 0), (15, 0)]], .tuple [], [.cells [.ptr 1 0, qi 34, qi 2, qi 22, qu 0, qu 7, qt, qi 17] 116, .sp .u64 151 4096 [(0, 1), (1, 2), (2, 3), (3, 0), (4, 1), (5, 1), (6, 1), (7, 0), (8, 0), (9, 0), (10, 0), (11, 0), (12, 0), (13, 0), (14, 0), (15, 0), (22, 7)]]⟩
set_option maxRecDepth 1000000 in
theorem klAe44 : runL [lAe43] lAe44 := by intro cs; kernel_rfl
theorem hlAe44 : (lit lAe44).Holds objs Tryz.prog := lit_holds (callable _ Tryz.func11 (by kernel_rfl) (by kernel_rfl)) (all_cons hlAe43 all_nil) klAe44
def lAe45 : Lit := ⟨29, [.ptr 0 0, .ptr 1 0], [.cells [qt, qu 65538, .func (.func 98) [] [.ptr 2 0, .ptr 3 0, .ptr 4 0, .ptr 5 0], .func (.func 98) [] [.ptr 2 0, .ptr 3 0, .ptr 6 0, .ptr 7 0], .func (.func 98) [] [.ptr 2 0, .ptr 3 0, .ptr 8 0, .ptr 9 0], .func (.func 98) [] [.ptr 2 0, .ptr 3 0, .ptr 10 0, .ptr 11 0], qi 0, qi 0] 141, .cells [.ptr 12 0, qi 34, qi 2, qi 15, qu 0, qu 0, qt, qi 16] 116, .cells [qi 16, qi 14, qi 2, qi 0, qi 1, qi 3, qi 4, qi 7, qi 9, qi 8, qi 9, qi 2, qi 11] 31, .cells [qi 1] 3, .cells [qi 0] 3, .cells [qu 7] 43, .cells [qi 1] 3, .cells [qu 5] 43, .cells [qi 2] 3, .cells [qu 2] 43, .cells [qi 3] 3, .cells [qu 2] 43, .sp .u64 151 4096 [(0, 1), (1, 2), (2, 3), (3, 0), (4, 1), (5, 1), (6, 1), (7, 0), (8, 0), (9, 0), (10, 0), (11, 0), (12, 0), (13, 0), (14, 0), (15, 0)]], qf, [.cells [qt, qu 65538, .func (.func 98) [] [.ptr 2 0, .ptr 3 0, .ptr 4 0, .ptr 5 0], .func (.func 98) [] [.ptr 2 0, .ptr 3 0, .ptr 6 0, .ptr 7 0], .func (.func 98) [] [.ptr 2 0, .ptr 3 0, .ptr 8 0, .ptr 9 0], .func (.func 98) [] [.ptr 2 0, .ptr 3 0, .ptr 10 0, .ptr 11 0], qi 1, qi 0] 141, .cells [.ptr 12 0, qi 34, qi 2, qi 22, qu 0, qu 7, qt, qi 17] 116, .cells [qi 16, qi 14, qi 2, qi 0, qi 1, qi 3, qi 4, qi 7, qi 9, qi 8, qi 9, qi 2, qi 11] 31, .cells [qi 1] 3, .cells [qi 0] 3, .cells [qu 7] 43, .cells [qi 1] 3, .cells [qu 5] 43, .cells [qi 2] 3, .cells [qu 2] 43, .cells [qi 3] 3, .cells [qu 2] 43, .sp .u64 151 4096 [(0, 1), (1, 2), (2, 3), (3, 0), (4, 1), (5, 1), (6, 1), (7, 0), (8, 0), (9, 0), (10, 0), (11, 0), (12, 0), (13, 0), (14, 0), (15, 0), (22, 7)]]⟩
set_option maxRecDepth 1000000 in
theorem klAe45 : runL [lAe42, lAe44] lAe45 := by intro cs; kernel_rfl
theorem hlAe45 : (lit lAe45).Holds objs Tryz.prog := lit_holds (callable _ Tryz.func29 (by kernel_rfl) (by kernel_rfl)) (all_cons hlAe42 (all_cons hlAe44 all_nil)) klAe45
def lAe46 : Lit := ⟨58, [.agg [qi 16, qi 14, qi 2, qi 0, qi 1, qi 3, qi 4, qi 7, qi 9, qi 8, qi 9, qi 2, qi 11], qi 1, qi 1], [], qi 23, []⟩
set_option maxRecDepth 1000000 in
theorem klAe46 : runL [] lAe46 := by intro cs; kernel_rfl
theorem hlAe46 : (lit lAe46).Holds objs Tryz.prog := lit_holds (callable _ Tryz.func58 (by kernel_rfl) (by kernel_rfl)) all_nil klAe46
def lAe47 : Lit := ⟨50, [.ptr 0 0, qi 2, qi 23, .ptr 1 23, .func (.func 51) [.agg [.ptr 1 23, qu 5, qu 0]] []], [.cells [.ptr 1 0, qi 34, qi 2, qi 22, qu 0, qu 7, qt, qi 17] 116, .sp .u64 151 4096 [(0, 1), (1, 2), (2, 3), (3, 0), (4, 1), (5, 1), (6, 1), (7, 0), (8, 0), (9, 0), (10, 0), (11, 0), (12, 0), (13, 0), (14, 0), (15, 0), (22, 7)]], .agg [qi 2, qi 23, qu 0, qu 5, qt], [.cells [.ptr 1 0, qi 34, qi 2, qi 23, qu 0, qu 5, qt, qi 18] 116, .sp .u64 151 4096 [(0, 1), (1, 2), (2, 3), (3, 0), (4, 1), (5, 1), (6, 1), (7, 0), (8, 0), (9, 0), (10, 0), (11, 0), (12, 0), (13, 0), (14, 0), (15, 0), (22, 7), (23, 5)]]⟩
set_option maxRecDepth 1000000 in
theorem klAe47 : runL [] lAe47 := by intro cs; kernel_rfl
theorem hlAe47 : (lit lAe47).Holds objs Tryz.prog := lit_holds (callable _ Tryz.func50 (by kernel_rfl) (by kernel_rfl)) all_nil klAe47
def lAe48 : Lit := ⟨11, [.ptr 0 0, qi 23, qu 5], [.cells [.ptr 1 0, qi 34, qi 2, qi 22, qu 0, qu 7, qt, qi 17] 116, .sp .u64 151 4096 [(0, 1), (1, 2), (2, 3), (3, 0), (4, 1), (5, 1), (6, 1), (7, 0), (8, 0), (9, 0), (10, 0), (11, 0), (12, 0), (13, 0), (14, 0), (15, 0), (22, 7)]], .tuple [], [.cells [.ptr 1 0, qi 34, qi 2, qi 23, qu 0, qu 5, qt, qi 18] 116, .sp .u64 151 4096 [(0, 1), (1, 2), (2, 3), (3, 0), (4, 1), (5, 1), (6, 1), (7, 0), (8, 0), (9, 0), (10, 0), (11, 0), (12, 0), (13, 0), (14, 0), (15, 0), (22, 7), (23, 5)]]⟩
set_option maxRecDepth 1000000 in
theorem klAe48 : runL [lAe47] lAe48 := by intro cs; kernel_rfl
theorem hlAe48 : (lit lAe48).Holds objs Tryz.prog := lit_holds (callable _ Tryz.func11 (by kernel_rfl) (by kernel_rfl)) (all_cons hlAe47 all_nil) klAe48
def lAe49 : Lit := ⟨29, [.ptr 0 0, .ptr 1 0], [.cells [qt, qu 65538, .func (.func 98) [] [.ptr 2 0, .ptr 3 0, .ptr 4 0, .ptr 5 0], .func (.func 98) [] [.ptr 2 0, .ptr 3 0, .ptr 6 0, .ptr 7 0], .func (.func 98) [] [.ptr 2 0, .ptr 3 0, .ptr 8 0, .ptr 9 0], .func (.func 98) [] [.ptr 2 0, .ptr 3 0, .ptr 10 0, .ptr 11 0], qi 1, qi 0] 141, .cells [.ptr 12 0, qi 34, qi 2, qi 22, qu 0, qu 7, qt, qi 17] 116, .cells [qi 16, qi 14, qi 2, qi 0, qi 1, qi 3, qi 4, qi 7, qi 9, qi 8, qi 9, qi 2, qi 11] 31, .cells [qi 1] 3, .cells [qi 0] 3, .cells [qu 7] 43, .cells [qi 1] 3, .cells [qu 5] 43, .cells [qi 2] 3, .cells [qu 2] 43, .cells [qi 3] 3, .cells [qu 2] 43, .sp .u64 151 4096 [(0, 1), (1, 2), (2, 3), (3, 0), (4, 1), (5, 1), (6, 1), (7, 0), (8, 0), (9, 0), (10, 0), (11, 0), (12, 0), (13, 0), (14, 0), (15, 0), (22, 7)]], qf, [.cells [qt, qu 65538, .func (.func 98) [] [.ptr 2 0, .ptr 3 0, .ptr 4 0, .ptr 5 0], .func (.func 98) [] [.ptr 2 0, .ptr 3 0, .ptr 6 0, .ptr 7 0], .func (.func 98) [] [.ptr 2 0, .ptr 3 0, .ptr 8 0, .ptr 9 0], .func (.func 98) [] [.ptr 2 0, .ptr 3 0, .ptr 10 0, .ptr 11 0], qi 2, qi 0] 141, .cells [.ptr 12 0, qi 34, qi 2, qi 23, qu 0, qu 5, qt, qi 18] 116, .cells [qi 16, qi 14, qi 2, qi 0, qi 1, qi 3, qi 4, qi 7, qi 9, qi 8, qi 9, qi 2, qi 11] 31, .cells [qi 1] 3, .cells [qi 0] 3, .cells [qu 7] 43, .cells [qi 1] 3, .cells [qu 5] 43, .cells [qi 2] 3, .cells [qu 2] 43, .cells [qi 3] 3, .cells [qu 2] 43, .sp .u64 151 4096 [(0, 1), (1, 2), (2, 3), (3, 0), (4, 1), (5, 1), (6, 1), (7, 0), (8, 0), (9, 0), (10, 0), (11, 0), (12, 0), (13, 0), (14, 0), (15, 0), (22, 7), (23, 5)]]⟩
set_option maxRecDepth 1000000 in
theorem klAe49 : runL [lAe46, lAe48] lAe49 := by intro cs; kernel_rfl
theorem hlAe49 : (lit lAe49).Holds objs Tryz.prog := lit_holds (callable _ Tryz.func29 (by kernel_rfl) (by kernel_rfl)) (all_cons hlAe46 (all_cons hlAe48 all_nil)) klAe49
def lAe50 : Lit := ⟨31, [.ptr 0 0], [.cells [qt, qu 65538, .func (.func 98) [] [.ptr 1 0, .ptr 2 0, .ptr 3 0, .ptr 4 0], .func (.func 98) [] [.ptr 1 0, .ptr 2 0, .ptr 5 0, .ptr 6 0], .func (.func 98) [] [.ptr 1 0, .ptr 2 0, .ptr 7 0, .ptr 8 0], .func (.func 98) [] [.ptr 1 0, .ptr 2 0, .ptr 9 0, .ptr 10 0], qi 2, qi 0] 141, .cells [qi 16, qi 14, qi 2, qi 0, qi 1, qi 3, qi 4, qi 7, qi 9, qi 8, qi 9, qi 2, qi 11] 31, .cells [qi 1] 3, .cells [qi 0] 3, .cells [qu 7] 43, .cells [qi 1] 3, .cells [qu 5] 43, .cells [qi 2] 3, .cells [qu 2] 43, .cells [qi 3] 3, .cells [qu 2] 43], qi 14, [.cells [qt, qu 65538, .func (.func 98) [] [.ptr 1 0, .ptr 2 0, .ptr 3 0, .ptr 4 0], .func (.func 98) [] [.ptr 1 0, .ptr 2 0, .ptr 5 0, .ptr 6 0], .func (.func 98) [] [.ptr 1 0, .ptr 2 0, .ptr 7 0, .ptr 8 0], .func (.func 98) [] [.ptr 1 0, .ptr 2 0, .ptr 9 0, .ptr 10 0], qi 2, qi 0] 141, .cells [qi 16, qi 14, qi 2, qi 0, qi 1, qi 3, qi 4, qi 7, qi 9, qi 8, qi 9, qi 2, qi 11] 31, .cells [qi 1] 3, .cells [qi 0] 3, .cells [qu 7] 43, .cells [qi 1] 3, .cells [qu 5] 43, .cells [qi 2] 3, .cells [qu 2] 43, .cells [qi 3] 3, .cells [qu 2] 43]⟩
set_option maxRecDepth 1000000 in
theorem klAe50 : runL [] lAe50 := by intro cs; kernel_rfl
theorem hlAe50 : (lit lAe50).Holds objs Tryz.prog := lit_holds (callable _ Tryz.func31 (by kernel_rfl) (by kernel_rfl)) all_nil klAe50
def lAe51 : Lit := ⟨58, [.agg [qi 16, qi 14, qi 2, qi 0, qi 1, qi 3, qi 4, qi 7, qi 9, qi 8, qi 9, qi 2, qi 11], qi 1, qi 2], [], qi 24, []⟩
set_option maxRecDepth 1000000 in
theorem klAe51 : runL [] lAe51 := by intro cs; kernel_rfl
theorem hlAe51 : (lit lAe51).Holds objs Tryz.prog := lit_holds (callable _ Tryz.func58 (by kernel_rfl) (by kernel_rfl)) all_nil klAe51
def lAe52 : Lit := ⟨50, [.ptr 0 0, qi 2, qi 24, .ptr 1 24, .func (.func 51) [.agg [.ptr 1 24, qu 2, qu 0]] []], [.cells [.ptr 1 0, qi 34, qi 2, qi 23, qu 0, qu 5, qt, qi 18] 116, .sp .u64 151 4096 [(0, 1), (1, 2), (2, 3), (3, 0), (4, 1), (5, 1), (6, 1), (7, 0), (8, 0), (9, 0), (10, 0), (11, 0), (12, 0), (13, 0), (14, 0), (15, 0), (22, 7), (23, 5)]], .agg [qi 2, qi 24, qu 0, qu 2, qt], [.cells [.ptr 1 0, qi 34, qi 2, qi 24, qu 0, qu 2, qt, qi 19] 116, .sp .u64 151 4096 [(0, 1), (1, 2), (2, 3), (3, 0), (4, 1), (5, 1), (6, 1), (7, 0), (8, 0), (9, 0), (10, 0), (11, 0), (12, 0), (13, 0), (14, 0), (15, 0), (22, 7), (23, 5), (24, 2)]]⟩
set_option maxRecDepth 1000000 in
theorem klAe52 : runL [] lAe52 := by intro cs; kernel_rfl
theorem hlAe52 : (lit lAe52).Holds objs Tryz.prog := lit_holds (callable _ Tryz.func50 (by kernel_rfl) (by kernel_rfl)) all_nil klAe52
def lAe53 : Lit := ⟨11, [.ptr 0 0, qi 24, qu 2], [.cells [.ptr 1 0, qi 34, qi 2, qi 23, qu 0, qu 5, qt, qi 18] 116, .sp .u64 151 4096 [(0, 1), (1, 2), (2, 3), (3, 0), (4, 1), (5, 1), (6, 1), (7, 0), (8, 0), (9, 0), (10, 0), (11, 0), (12, 0), (13, 0), (14, 0), (15, 0), (22, 7), (23, 5)]], .tuple [], [.cells [.ptr 1 0, qi 34, qi 2, qi 24, qu 0, qu 2, qt, qi 19] 116, .sp .u64 151 4096 [(0, 1), (1, 2), (2, 3), (3, 0), (4, 1), (5, 1), (6, 1), (7, 0), (8, 0), (9, 0), (10, 0), (11, 0), (12, 0), (13, 0), (14, 0), (15, 0), (22, 7), (23, 5), (24, 2)]]⟩
set_option maxRecDepth 1000000 in
theorem klAe53 : runL [lAe52] lAe53 := by intro cs; kernel_rfl
theorem hlAe53 : (lit lAe53).Holds objs Tryz.prog := lit_holds (callable _ Tryz.func11 (by kernel_rfl) (by kernel_rfl)) (all_cons hlAe52 all_nil) klAe53
def lAe54 : Lit := ⟨29, [.ptr 0 0, .ptr 1 0], [.cells [qt, qu 65538, .func (.func 98) [] [.ptr 2 0, .ptr 3 0, .ptr 4 0, .ptr 5 0], .func (.func 98) [] [.ptr 2 0, .ptr 3 0, .ptr 6 0, .ptr 7 0], .func (.func 98) [] [.ptr 2 0, .ptr 3 0, .ptr 8 0, .ptr 9 0], .func (.func 98) [] [.ptr 2 0, .ptr 3 0, .ptr 10 0, .ptr 11 0], qi 2, qi 0] 141, .cells [.ptr 12 0, qi 34, qi 2, qi 23, qu 0, qu 5, qt, qi 18] 116, .cells [qi 16, qi 14, qi 2, qi 0, qi 1, qi 3, qi 4, qi 7, qi 9, qi 8, qi 9, qi 2, qi 11] 31, .cells [qi 1] 3, .cells [qi 0] 3, .cells [qu 7] 43, .cells [qi 1] 3, .cells [qu 5] 43, .cells [qi 2] 3, .cells [qu 2] 43, .cells [qi 3] 3, .cells [qu 2] 43, .sp .u64 151 4096 [(0, 1), (1, 2), (2, 3), (3, 0), (4, 1), (5, 1), (6, 1), (7, 0), (8, 0), (9, 0), (10, 0), (11, 0), (12, 0), (13, 0), (14, 0), (15, 0), (22, 7), (23, 5)]], qf, [.cells [qt, qu 65538, .func (.func 98) [] [.ptr 2 0, .ptr 3 0, .ptr 4 0, .ptr 5 0], .func (.func 98) [] [.ptr 2 0, .ptr 3 0, .ptr 6 0, .ptr 7 0], .func (.func 98) [] [.ptr 2 0, .ptr 3 0, .ptr 8 0, .ptr 9 0], .func (.func 98) [] [.ptr 2 0, .ptr 3 0, .ptr 10 0, .ptr 11 0], qi 3, qi 0] 141, .cells [.ptr 12 0, qi 34, qi 2, qi 24, qu 0, qu 2, qt, qi 19] 116, .cells [qi 16, qi 14, qi 2, qi 0, qi 1, qi 3, qi 4, qi 7, qi 9, qi 8, qi 9, qi 2, qi 11] 31, .cells [qi 1] 3, .cells [qi 0] 3, .cells [qu 7] 43, .cells [qi 1] 3, .cells [qu 5] 43, .cells [qi 2] 3, .cells [qu 2] 43, .cells [qi 3] 3, .cells [qu 2] 43, .sp .u64 151 4096 [(0, 1), (1, 2), (2, 3), (3, 0), (4, 1), (5, 1), (6, 1), (7, 0), (8, 0), (9, 0), (10, 0), (11, 0), (12, 0), (13, 0), (14, 0), (15, 0), (22, 7), (23, 5), (24, 2)]]⟩
set_option maxRecDepth 1000000 in
theorem klAe54 : runL [lAe51, lAe53] lAe54 := by intro cs; kernel_rfl
theorem hlAe54 : (lit lAe54).Holds objs Tryz.prog := lit_holds (callable _ Tryz.func29 (by kernel_rfl) (by kernel_rfl)) (all_cons hlAe51 (all_cons hlAe53 all_nil)) klAe54
def lAe55 : Lit := ⟨58, [.agg [qi 16, qi 14, qi 2, qi 0, qi 1, qi 3, qi 4, qi 7, qi 9, qi 8, qi 9, qi 2, qi 11], qi 1, qi 3], [], qi 25, []⟩
set_option maxRecDepth 1000000 in
theorem klAe55 : runL [] lAe55 := by intro cs; kernel_rfl
theorem hlAe55 : (lit lAe55).Holds objs Tryz.prog := lit_holds (callable _ Tryz.func58 (by kernel_rfl) (by kernel_rfl)) all_nil klAe55
def lAe56 : Lit := ⟨50, [.ptr 0 0, qi 2, qi 25, .ptr 1 25, .func (.func 51) [.agg [.ptr 1 25, qu 2, qu 0]] []], [.cells [.ptr 1 0, qi 34, qi 2, qi 24, qu 0, qu 2, qt, qi 19] 116, .sp .u64 151 4096 [(0, 1), (1, 2), (2, 3), (3, 0), (4, 1), (5, 1), (6, 1), (7, 0), (8, 0), (9, 0), (10, 0), (11, 0), (12, 0), (13, 0), (14, 0), (15, 0), (22, 7), (23, 5), (24, 2)]], .agg [qi 2, qi 25, qu 0, qu 2, qt], [.cells [.ptr 1 0, qi 34, qi 2, qi 25, qu 0, qu 2, qt, qi 20] 116, .sp .u64 151 4096 [(0, 1), (1, 2), (2, 3), (3, 0), (4, 1), (5, 1), (6, 1), (7, 0), (8, 0), (9, 0), (10, 0), (11, 0), (12, 0), (13, 0), (14, 0), (15, 0), (22, 7), (23, 5), (24, 2), (25, 2)]]⟩
set_option maxRecDepth 1000000 in
theorem klAe56 : runL [] lAe56 := by intro cs; kernel_rfl
theorem hlAe56 : (lit lAe56).Holds objs Tryz.prog := lit_holds (callable _ Tryz.func50 (by kernel_rfl) (by kernel_rfl)) all_nil klAe56
def lAe57 : Lit := ⟨11, [.ptr 0 0, qi 25, qu 2], [.cells [.ptr 1 0, qi 34, qi 2, qi 24, qu 0, qu 2, qt, qi 19] 116, .sp .u64 151 4096 [(0, 1), (1, 2), (2, 3), (3, 0), (4, 1), (5, 1), (6, 1), (7, 0), (8, 0), (9, 0), (10, 0), (11, 0), (12, 0), (13, 0), (14, 0), (15, 0), (22, 7), (23, 5), (24, 2)]], .tuple [], [.cells [.ptr 1 0, qi 34, qi 2, qi 25, qu 0, qu 2, qt, qi 20] 116, .sp .u64 151 4096 [(0, 1), (1, 2), (2, 3), (3, 0), (4, 1), (5, 1), (6, 1), (7, 0), (8, 0), (9, 0), (10, 0), (11, 0), (12, 0), (13, 0), (14, 0), (15, 0), (22, 7), (23, 5), (24, 2), (25, 2)]]⟩
set_option maxRecDepth 1000000 in
theorem klAe57 : runL [lAe56] lAe57 := by intro cs; kernel_rfl
theorem hlAe57 : (lit lAe57).Holds objs Tryz.prog := lit_holds (callable _ Tryz.func11 (by kernel_rfl) (by kernel_rfl)) (all_cons hlAe56 all_nil) klAe57
def lAe58 : Lit := ⟨29, [.ptr 0 0, .ptr 1 0], [.cells [qt, qu 65538, .func (.func 98) [] [.ptr 2 0, .ptr 3 0, .ptr 4 0, .ptr 5 0], .func (.func 98) [] [.ptr 2 0, .ptr 3 0, .ptr 6 0, .ptr 7 0], .func (.func 98) [] [.ptr 2 0, .ptr 3 0, .ptr 8 0, .ptr 9 0], .func (.func 98) [] [.ptr 2 0, .ptr 3 0, .ptr 10 0, .ptr 11 0], qi 3, qi 0] 141, .cells [.ptr 12 0, qi 34, qi 2, qi 24, qu 0, qu 2, qt, qi 19] 116, .cells [qi 16, qi 14, qi 2, qi 0, qi 1, qi 3, qi 4, qi 7, qi 9, qi 8, qi 9, qi 2, qi 11] 31, .cells [qi 1] 3, .cells [qi 0] 3, .cells [qu 7] 43, .cells [qi 1] 3, .cells [qu 5] 43, .cells [qi 2] 3, .cells [qu 2] 43, .cells [qi 3] 3, .cells [qu 2] 43, .sp .u64 151 4096 [(0, 1), (1, 2), (2, 3), (3, 0), (4, 1), (5, 1), (6, 1), (7, 0), (8, 0), (9, 0), (10, 0), (11, 0), (12, 0), (13, 0), (14, 0), (15, 0), (22, 7), (23, 5), (24, 2)]], qt, [.cells [qt, qu 65538, .func (.func 98) [] [.ptr 2 0, .ptr 3 0, .ptr 4 0, .ptr 5 0], .func (.func 98) [] [.ptr 2 0, .ptr 3 0, .ptr 6 0, .ptr 7 0], .func (.func 98) [] [.ptr 2 0, .ptr 3 0, .ptr 8 0, .ptr 9 0], .func (.func 98) [] [.ptr 2 0, .ptr 3 0, .ptr 10 0, .ptr 11 0], qi 4, qi 0] 141, .cells [.ptr 12 0, qi 34, qi 2, qi 25, qu 0, qu 2, qt, qi 20] 116, .cells [qi 16, qi 14, qi 2, qi 0, qi 1, qi 3, qi 4, qi 7, qi 9, qi 8, qi 9, qi 2, qi 11] 31, .cells [qi 1] 3, .cells [qi 0] 3, .cells [qu 7] 43, .cells [qi 1] 3, .cells [qu 5] 43, .cells [qi 2] 3, .cells [qu 2] 43, .cells [qi 3] 3, .cells [qu 2] 43, .sp .u64 151 4096 [(0, 1), (1, 2), (2, 3), (3, 0), (4, 1), (5, 1), (6, 1), (7, 0), (8, 0), (9, 0), (10, 0), (11, 0), (12, 0), (13, 0), (14, 0), (15, 0), (22, 7), (23, 5), (24, 2), (25, 2)]]⟩
set_option maxRecDepth 1000000 in
theorem klAe58 : runL [lAe55, lAe57] lAe58 := by intro cs; kernel_rfl
theorem hlAe58 : (lit lAe58).Holds objs Tryz.prog := lit_holds (callable _ Tryz.func29 (by kernel_rfl) (by kernel_rfl)) (all_cons hlAe55 (all_cons hlAe57 all_nil)) klAe58
def lAe59 : Lit := ⟨31, [.ptr 0 0], [.cells [qt, qu 65538, .func (.func 98) [] [.ptr 1 0, .ptr 2 0, .ptr 3 0, .ptr 4 0], .func (.func 98) [] [.ptr 1 0, .ptr 2 0, .ptr 5 0, .ptr 6 0], .func (.func 98) [] [.ptr 1 0, .ptr 2 0, .ptr 7 0, .ptr 8 0], .func (.func 98) [] [.ptr 1 0, .ptr 2 0, .ptr 9 0, .ptr 10 0], qi 4, qi 0] 141, .cells [qi 16, qi 14, qi 2, qi 0, qi 1, qi 3, qi 4, qi 7, qi 9, qi 8, qi 9, qi 2, qi 11] 31, .cells [qi 1] 3, .cells [qi 0] 3, .cells [qu 7] 43, .cells [qi 1] 3, .cells [qu 5] 43, .cells [qi 2] 3, .cells [qu 2] 43, .cells [qi 3] 3, .cells [qu 2] 43], qi 0, [.cells [qt, qu 65538, .func (.func 98) [] [.ptr 1 0, .ptr 2 0, .ptr 3 0, .ptr 4 0], .func (.func 98) [] [.ptr 1 0, .ptr 2 0, .ptr 5 0, .ptr 6 0], .func (.func 98) [] [.ptr 1 0, .ptr 2 0, .ptr 7 0, .ptr 8 0], .func (.func 98) [] [.ptr 1 0, .ptr 2 0, .ptr 9 0, .ptr 10 0], qi 4, qi 0] 141, .cells [qi 16, qi 14, qi 2, qi 0, qi 1, qi 3, qi 4, qi 7, qi 9, qi 8, qi 9, qi 2, qi 11] 31, .cells [qi 1] 3, .cells [qi 0] 3, .cells [qu 7] 43, .cells [qi 1] 3, .cells [qu 5] 43, .cells [qi 2] 3, .cells [qu 2] 43, .cells [qi 3] 3, .cells [qu 2] 43]⟩
set_option maxRecDepth 1000000 in
theorem klAe59 : runL [] lAe59 := by intro cs; kernel_rfl
theorem hlAe59 : (lit lAe59).Holds objs Tryz.prog := lit_holds (callable _ Tryz.func31 (by kernel_rfl) (by kernel_rfl)) all_nil klAe59
def lAe60 : Lit := ⟨87, [], [], .ptr 0 0, [.cells [.ptr 1 0, qi 34, qi 2, qi 25, qu 0, qu 2, qt, qi 20] 116, .sp .u64 151 4096 [(0, 1), (1, 2), (2, 3), (3, 0), (4, 1), (5, 1), (6, 1), (7, 0), (8, 0), (9, 0), (10, 0), (11, 0), (12, 0), (13, 0), (14, 0), (15, 0), (22, 7), (23, 5), (24, 2), (25, 2)]]⟩
set_option maxRecDepth 1000000 in
theorem klAe60 : runL [lAe0, lAe1, lAe37, lAe41, lAe45, lAe49, lAe50, lAe54, lAe58, lAe59] lAe60 := by intro cs; kernel_rfl
theorem hlAe60 : (lit lAe60).Holds objs Tryz.prog := lit_holds (callable _ Tryz.func87 (by kernel_rfl) (by kernel_rfl)) (all_cons hlAe0 (all_cons hlAe1 (all_cons hlAe37 (all_cons hlAe41 (all_cons hlAe45 (all_cons hlAe49 (all_cons hlAe50 (all_cons hlAe54 (all_cons hlAe58 (all_cons hlAe59 all_nil)))))))))) klAe60
def lAe61 : Lit := ⟨58, [.agg [qi 16, qi 14, qi 2, qi 0, qi 1, qi 3, qi 4, qi 7, qi 9, qi 8, qi 9, qi 2, qi 11], qi 1, qi 4], [], qi 26, []⟩
set_option maxRecDepth 1000000 in
theorem klAe61 : runL [] lAe61 := by intro cs; kernel_rfl
theorem hlAe61 : (lit lAe61).Holds objs Tryz.prog := lit_holds (callable _ Tryz.func58 (by kernel_rfl) (by kernel_rfl)) all_nil klAe61
def lAe62 : Lit := ⟨58, [.agg [qi 16, qi 14, qi 2, qi 0, qi 1, qi 3, qi 4, qi 7, qi 9, qi 8, qi 9, qi 2, qi 11], qi 1, qi 5], [], qi 27, []⟩
set_option maxRecDepth 1000000 in
theorem klAe62 : runL [] lAe62 := by intro cs; kernel_rfl
theorem hlAe62 : (lit lAe62).Holds objs Tryz.prog := lit_holds (callable _ Tryz.func58 (by kernel_rfl) (by kernel_rfl)) all_nil klAe62
def lAe63 : Lit := ⟨58, [.agg [qi 16, qi 14, qi 2, qi 0, qi 1, qi 3, qi 4, qi 7, qi 9, qi 8, qi 9, qi 2, qi 11], qi 0, qi 5], [], qi 21, []⟩
set_option maxRecDepth 1000000 in
theorem klAe63 : runL [] lAe63 := by intro cs; kernel_rfl
theorem hlAe63 : (lit lAe63).Holds objs Tryz.prog := lit_holds (callable _ Tryz.func58 (by kernel_rfl) (by kernel_rfl)) all_nil klAe63
def lAe64 : Lit := ⟨46, [.agg [qi 16, qi 14, qi 2, qi 0, qi 1, qi 3, qi 4, qi 7, qi 9, qi 8, qi 9, qi 2, qi 11], qi 0, qi 1], [], qi 21, []⟩
set_option maxRecDepth 1000000 in
theorem klAe64 : runL [lAe63] lAe64 := by intro cs; kernel_rfl
theorem hlAe64 : (lit lAe64).Holds objs Tryz.prog := lit_holds (callable _ Tryz.func46 (by kernel_rfl) (by kernel_rfl)) (all_cons hlAe63 all_nil) klAe64
end Go.Proofs.YtbmbiiiacajolaaGreat
/- A closed function: it answers true. -/
namespace Go.Proofs.YtbmbiiiacajolaaGreat
set_option linter.unusedVariables false
set_option linter.unusedSimpArgs false
set_option linter.unusedSectionVars false
open Go Go.RowKit

set_option maxRecDepth 1000000 in
theorem kAe : ∀ cs, (runCtr (cxL Tryz.prog [lAe60, lAe1, lAe42, lAe46, lAe51, lAe55, lAe61, lAe62, lAe64]) 60 (boolC 24) [] []).satC (cxL Tryz.prog [lAe60, lAe1, lAe42, lAe46, lAe51, lAe55, lAe61, lAe62, lAe64]) preL okL (fun _ o => oneB o) cs 0 [] [] = true := by intro cs; kernel_rfl
theorem hAe : (boolC 24).Holds objs Tryz.prog := lit_root (callable _ Tryz.func24 (by kernel_rfl) (by kernel_rfl)) (all_cons hlAe60 (all_cons hlAe1 (all_cons hlAe42 (all_cons hlAe46 (all_cons hlAe51 (all_cons hlAe55 (all_cons hlAe61 (all_cons hlAe62 (all_cons hlAe64 all_nil))))))))) kAe
def lAe : Lit := lB 24
theorem hlAe : (lit lAe).Holds objs Tryz.prog := hAe
end Go.Proofs.YtbmbiiiacajolaaGreat
