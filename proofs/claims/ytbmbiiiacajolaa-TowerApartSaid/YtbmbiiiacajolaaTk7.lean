/- Calls of a run whose numbers are all known, as a program of ours printed them. -/
import Derived.Test.YtbmbiiiacajolaaLt
import Derived.Test.YtbmbiiiacajolaaTk1
import Derived.Test.YtbmbiiiacajolaaTk4
import Derived.Test.YtbmbiiiacajolaaTk5
import Derived.Test.YtbmbiiiacajolaaTk6
namespace Go.Proofs.Ytbmbiiiacajolaa
set_option linter.unusedVariables false
set_option linter.unusedSimpArgs false
set_option linter.unusedSectionVars false
open Go Go.RowKit

def lTk240 : Lit := ⟨92, [.int .u64 (.lit 0)], [], .tuple [.agg [.int .i64 (.lit (-1)), .int .i64 (.lit 0), .bool (.lit false)], .int .i64 (.lit 0)], []⟩
set_option maxRecDepth 1000000 in
theorem klTk240 : runL [lTk121, lTk185, lTk234, lTk189, lTk239] lTk240 := by intro cs; kernel_rfl
theorem hlTk240 : (lit lTk240).Holds objs Try.prog := lit_holds (callable _ Try.func92 (by kernel_rfl) (by kernel_rfl)) (all_cons hlTk121 (all_cons hlTk185 (all_cons hlTk234 (all_cons hlTk189 (all_cons hlTk239 all_nil))))) klTk240
def lTk241 : Lit := ⟨69, [.agg [.int .i64 (.lit 16), .int .i64 (.lit 14), .int .i64 (.lit 2), .int .i64 (.lit 0), .int .i64 (.lit 1), .int .i64 (.lit 3), .int .i64 (.lit 4), .int .i64 (.lit 7), .int .i64 (.lit 9), .int .i64 (.lit 8), .int .i64 (.lit 9), .int .i64 (.lit 2), .int .i64 (.lit 11)], .int .u64 (.lit 0), .int .i64 (.lit 5), .int .i64 (.lit 2)], [], .int .i64 (.lit 3), []⟩
set_option maxRecDepth 1000000 in
theorem klTk241 : runL [lTk1, lTk240] lTk241 := by intro cs; kernel_rfl
theorem hlTk241 : (lit lTk241).Holds objs Try.prog := lit_holds (callable _ Try.func69 (by kernel_rfl) (by kernel_rfl)) (all_cons hlTk1 (all_cons hlTk240 all_nil)) klTk241
def lTk242 : Lit := ⟨24, [.agg [.int .i64 (.lit 16), .int .i64 (.lit 14), .int .i64 (.lit 2), .int .i64 (.lit 0), .int .i64 (.lit 1), .int .i64 (.lit 3), .int .i64 (.lit 4), .int .i64 (.lit 7), .int .i64 (.lit 9), .int .i64 (.lit 8), .int .i64 (.lit 9), .int .i64 (.lit 2), .int .i64 (.lit 11)], .int .u64 (.lit 0), .int .u64 (.lit 7), .int .i64 (.lit 5), .int .i64 (.lit 2)], [], .ptr 0 0, [.cells [.bool (.lit true), .int .u64 (.lit 0), .nilf, .nilf, .nilf, .nilf, .int .i64 (.lit 4), .int .i64 (.lit 3)] 46]⟩
set_option maxRecDepth 1000000 in
theorem klTk242 : runL [lTk241] lTk242 := by intro cs; kernel_rfl
theorem hlTk242 : (lit lTk242).Holds objs Try.prog := lit_holds (callable _ Try.func24 (by kernel_rfl) (by kernel_rfl)) (all_cons hlTk241 all_nil) klTk242
def lTk243 : Lit := ⟨110, [.int .u64 (.lit 9223372036854841346), .agg [.int .i64 (.lit 0), .int .i64 (.lit 16)]], [], .int .i64 (.lit 2), []⟩
set_option maxRecDepth 1000000 in
theorem klTk243 : runL [] lTk243 := by intro cs; kernel_rfl
theorem hlTk243 : (lit lTk243).Holds objs Try.prog := lit_holds (callable _ Try.func110 (by kernel_rfl) (by kernel_rfl)) all_nil klTk243
def lTk244 : Lit := ⟨110, [.int .u64 (.lit 9223372036854841346), .agg [.int .i64 (.lit 16), .int .i64 (.lit 32)]], [], .int .i64 (.lit 1), []⟩
set_option maxRecDepth 1000000 in
theorem klTk244 : runL [] lTk244 := by intro cs; kernel_rfl
theorem hlTk244 : (lit lTk244).Holds objs Try.prog := lit_holds (callable _ Try.func110 (by kernel_rfl) (by kernel_rfl)) all_nil klTk244
def lTk245 : Lit := ⟨76, [.int .u64 (.lit 9223372036854841346)], [], .bool (.lit true), []⟩
set_option maxRecDepth 1000000 in
theorem klTk245 : runL [] lTk245 := by intro cs; kernel_rfl
theorem hlTk245 : (lit lTk245).Holds objs Try.prog := lit_holds (callable _ Try.func76 (by kernel_rfl) (by kernel_rfl)) all_nil klTk245
def lTk246 : Lit := ⟨58, [.int .u64 (.lit 65538), .bool (.lit true)], [], .int .u64 (.lit 9223372036854841346), []⟩
set_option maxRecDepth 1000000 in
theorem klTk246 : runL [] lTk246 := by intro cs; kernel_rfl
theorem hlTk246 : (lit lTk246).Holds objs Try.prog := lit_holds (callable _ Try.func58 (by kernel_rfl) (by kernel_rfl)) all_nil klTk246
def lTk247 : Lit := ⟨57, [.agg [.int .i64 (.lit 1), .int .i64 (.lit 1), .bool (.lit true)]], [], .tuple [.int .u64 (.lit 9223372036854841346), .int .i64 (.lit 0)], []⟩
set_option maxRecDepth 1000000 in
theorem klTk247 : runL [lTk125, lTk121, lTk127, lTk246] lTk247 := by intro cs; kernel_rfl
theorem hlTk247 : (lit lTk247).Holds objs Try.prog := lit_holds (callable _ Try.func57 (by kernel_rfl) (by kernel_rfl)) (all_cons hlTk125 (all_cons hlTk121 (all_cons hlTk127 (all_cons hlTk246 all_nil)))) klTk247
def lTk248 : Lit := ⟨92, [.int .u64 (.lit 9223372036854841346)], [], .tuple [.agg [.int .i64 (.lit 1), .int .i64 (.lit 1), .bool (.lit true)], .int .i64 (.lit 0)], []⟩
set_option maxRecDepth 1000000 in
theorem klTk248 : runL [lTk121, lTk243, lTk244, lTk245, lTk247] lTk248 := by intro cs; kernel_rfl
theorem hlTk248 : (lit lTk248).Holds objs Try.prog := lit_holds (callable _ Try.func92 (by kernel_rfl) (by kernel_rfl)) (all_cons hlTk121 (all_cons hlTk243 (all_cons hlTk244 (all_cons hlTk245 (all_cons hlTk247 all_nil))))) klTk248
def lTk249 : Lit := ⟨69, [.agg [.int .i64 (.lit 16), .int .i64 (.lit 14), .int .i64 (.lit 2), .int .i64 (.lit 0), .int .i64 (.lit 1), .int .i64 (.lit 3), .int .i64 (.lit 4), .int .i64 (.lit 7), .int .i64 (.lit 9), .int .i64 (.lit 8), .int .i64 (.lit 9), .int .i64 (.lit 2), .int .i64 (.lit 11)], .int .u64 (.lit 9223372036854841346), .int .i64 (.lit 5), .int .i64 (.lit 2)], [], .int .i64 (.lit 3), []⟩
set_option maxRecDepth 1000000 in
theorem klTk249 : runL [lTk1, lTk248] lTk249 := by intro cs; kernel_rfl
theorem hlTk249 : (lit lTk249).Holds objs Try.prog := lit_holds (callable _ Try.func69 (by kernel_rfl) (by kernel_rfl)) (all_cons hlTk1 (all_cons hlTk248 all_nil)) klTk249
def lTk250 : Lit := ⟨24, [.agg [.int .i64 (.lit 16), .int .i64 (.lit 14), .int .i64 (.lit 2), .int .i64 (.lit 0), .int .i64 (.lit 1), .int .i64 (.lit 3), .int .i64 (.lit 4), .int .i64 (.lit 7), .int .i64 (.lit 9), .int .i64 (.lit 8), .int .i64 (.lit 9), .int .i64 (.lit 2), .int .i64 (.lit 11)], .int .u64 (.lit 9223372036854841346), .int .u64 (.lit 7), .int .i64 (.lit 5), .int .i64 (.lit 2)], [], .ptr 0 0, [.cells [.bool (.lit true), .int .u64 (.lit 9223372036854841346), .nilf, .nilf, .nilf, .nilf, .int .i64 (.lit 4), .int .i64 (.lit 3)] 46]⟩
set_option maxRecDepth 1000000 in
theorem klTk250 : runL [lTk249] lTk250 := by intro cs; kernel_rfl
theorem hlTk250 : (lit lTk250).Holds objs Try.prog := lit_holds (callable _ Try.func24 (by kernel_rfl) (by kernel_rfl)) (all_cons hlTk249 all_nil) klTk250
def lTk251 : Lit := ⟨69, [.agg [.int .i64 (.lit 16), .int .i64 (.lit 14), .int .i64 (.lit 2), .int .i64 (.lit 0), .int .i64 (.lit 1), .int .i64 (.lit 3), .int .i64 (.lit 4), .int .i64 (.lit 7), .int .i64 (.lit 9), .int .i64 (.lit 8), .int .i64 (.lit 9), .int .i64 (.lit 2), .int .i64 (.lit 11)], .int .u64 (.lit 65538), .int .i64 (.lit 5), .int .i64 (.lit 3)], [], .int .i64 (.lit 3), []⟩
set_option maxRecDepth 1000000 in
theorem klTk251 : runL [lTk1, lTk130] lTk251 := by intro cs; kernel_rfl
theorem hlTk251 : (lit lTk251).Holds objs Try.prog := lit_holds (callable _ Try.func69 (by kernel_rfl) (by kernel_rfl)) (all_cons hlTk1 (all_cons hlTk130 all_nil)) klTk251
def lTk252 : Lit := ⟨24, [.agg [.int .i64 (.lit 16), .int .i64 (.lit 14), .int .i64 (.lit 2), .int .i64 (.lit 0), .int .i64 (.lit 1), .int .i64 (.lit 3), .int .i64 (.lit 4), .int .i64 (.lit 7), .int .i64 (.lit 9), .int .i64 (.lit 8), .int .i64 (.lit 9), .int .i64 (.lit 2), .int .i64 (.lit 11)], .int .u64 (.lit 65538), .int .u64 (.lit 7), .int .i64 (.lit 5), .int .i64 (.lit 3)], [], .ptr 0 0, [.cells [.bool (.lit true), .int .u64 (.lit 65538), .nilf, .nilf, .nilf, .nilf, .int .i64 (.lit 4), .int .i64 (.lit 3)] 46]⟩
set_option maxRecDepth 1000000 in
theorem klTk252 : runL [lTk251] lTk252 := by intro cs; kernel_rfl
theorem hlTk252 : (lit lTk252).Holds objs Try.prog := lit_holds (callable _ Try.func24 (by kernel_rfl) (by kernel_rfl)) (all_cons hlTk251 all_nil) klTk252
def lTk253 : Lit := ⟨69, [.agg [.int .i64 (.lit 16), .int .i64 (.lit 14), .int .i64 (.lit 2), .int .i64 (.lit 0), .int .i64 (.lit 1), .int .i64 (.lit 3), .int .i64 (.lit 4), .int .i64 (.lit 7), .int .i64 (.lit 9), .int .i64 (.lit 8), .int .i64 (.lit 9), .int .i64 (.lit 2), .int .i64 (.lit 11)], .int .u64 (.lit 65538), .int .i64 (.lit (-1)), .int .i64 (.lit 2)], [], .int .i64 (.lit 3), []⟩
set_option maxRecDepth 1000000 in
theorem klTk253 : runL [lTk1, lTk130] lTk253 := by intro cs; kernel_rfl
theorem hlTk253 : (lit lTk253).Holds objs Try.prog := lit_holds (callable _ Try.func69 (by kernel_rfl) (by kernel_rfl)) (all_cons hlTk1 (all_cons hlTk130 all_nil)) klTk253
def lTk254 : Lit := ⟨24, [.agg [.int .i64 (.lit 16), .int .i64 (.lit 14), .int .i64 (.lit 2), .int .i64 (.lit 0), .int .i64 (.lit 1), .int .i64 (.lit 3), .int .i64 (.lit 4), .int .i64 (.lit 7), .int .i64 (.lit 9), .int .i64 (.lit 8), .int .i64 (.lit 9), .int .i64 (.lit 2), .int .i64 (.lit 11)], .int .u64 (.lit 65538), .int .u64 (.lit 7), .int .i64 (.lit (-1)), .int .i64 (.lit 2)], [], .ptr 0 0, [.cells [.bool (.lit true), .int .u64 (.lit 65538), .nilf, .nilf, .nilf, .nilf, .int .i64 (.lit 4), .int .i64 (.lit 3)] 46]⟩
set_option maxRecDepth 1000000 in
theorem klTk254 : runL [lTk253] lTk254 := by intro cs; kernel_rfl
theorem hlTk254 : (lit lTk254).Holds objs Try.prog := lit_holds (callable _ Try.func24 (by kernel_rfl) (by kernel_rfl)) (all_cons hlTk253 all_nil) klTk254
def lTk255 : Lit := ⟨68, [.ptr 0 0], [.cells [.bool (.lit true), .int .u64 (.lit 281474976710657), .nilf, .nilf, .nilf, .nilf, .int .i64 (.lit 4), .int .i64 (.lit 5)] 46], .bool (.lit true), [.cells [.bool (.lit true), .int .u64 (.lit 281474976710657), .nilf, .nilf, .nilf, .nilf, .int .i64 (.lit 4), .int .i64 (.lit 5)] 46]⟩
set_option maxRecDepth 1000000 in
theorem klTk255 : runL [] lTk255 := by intro cs; kernel_rfl
theorem hlTk255 : (lit lTk255).Holds objs Try.prog := lit_holds (callable _ Try.func68 (by kernel_rfl) (by kernel_rfl)) all_nil klTk255
def lTk256 : Lit := ⟨21, [.ptr 0 0], [.cells [.bool (.lit true), .int .u64 (.lit 281474976710657), .nilf, .nilf, .nilf, .nilf, .int .i64 (.lit 4), .int .i64 (.lit 5)] 46], .int .i64 (.lit 5), [.cells [.bool (.lit true), .int .u64 (.lit 281474976710657), .nilf, .nilf, .nilf, .nilf, .int .i64 (.lit 4), .int .i64 (.lit 5)] 46]⟩
set_option maxRecDepth 1000000 in
theorem klTk256 : runL [lTk255] lTk256 := by intro cs; kernel_rfl
theorem hlTk256 : (lit lTk256).Holds objs Try.prog := lit_holds (callable _ Try.func21 (by kernel_rfl) (by kernel_rfl)) (all_cons hlTk255 all_nil) klTk256
def lTk257 : Lit := ⟨68, [.ptr 0 0], [.cells [.bool (.lit true), .int .u64 (.lit 0), .nilf, .nilf, .nilf, .nilf, .int .i64 (.lit 4), .int .i64 (.lit 3)] 46], .bool (.lit true), [.cells [.bool (.lit true), .int .u64 (.lit 0), .nilf, .nilf, .nilf, .nilf, .int .i64 (.lit 4), .int .i64 (.lit 3)] 46]⟩
set_option maxRecDepth 1000000 in
theorem klTk257 : runL [] lTk257 := by intro cs; kernel_rfl
theorem hlTk257 : (lit lTk257).Holds objs Try.prog := lit_holds (callable _ Try.func68 (by kernel_rfl) (by kernel_rfl)) all_nil klTk257
def lTk258 : Lit := ⟨21, [.ptr 0 0], [.cells [.bool (.lit true), .int .u64 (.lit 0), .nilf, .nilf, .nilf, .nilf, .int .i64 (.lit 4), .int .i64 (.lit 3)] 46], .int .i64 (.lit 3), [.cells [.bool (.lit true), .int .u64 (.lit 0), .nilf, .nilf, .nilf, .nilf, .int .i64 (.lit 4), .int .i64 (.lit 3)] 46]⟩
set_option maxRecDepth 1000000 in
theorem klTk258 : runL [lTk257] lTk258 := by intro cs; kernel_rfl
theorem hlTk258 : (lit lTk258).Holds objs Try.prog := lit_holds (callable _ Try.func21 (by kernel_rfl) (by kernel_rfl)) (all_cons hlTk257 all_nil) klTk258
def lTk259 : Lit := ⟨68, [.ptr 0 0], [.cells [.bool (.lit true), .int .u64 (.lit 9223372036854841346), .nilf, .nilf, .nilf, .nilf, .int .i64 (.lit 4), .int .i64 (.lit 3)] 46], .bool (.lit true), [.cells [.bool (.lit true), .int .u64 (.lit 9223372036854841346), .nilf, .nilf, .nilf, .nilf, .int .i64 (.lit 4), .int .i64 (.lit 3)] 46]⟩
set_option maxRecDepth 1000000 in
theorem klTk259 : runL [] lTk259 := by intro cs; kernel_rfl
theorem hlTk259 : (lit lTk259).Holds objs Try.prog := lit_holds (callable _ Try.func68 (by kernel_rfl) (by kernel_rfl)) all_nil klTk259
def lTk260 : Lit := ⟨21, [.ptr 0 0], [.cells [.bool (.lit true), .int .u64 (.lit 9223372036854841346), .nilf, .nilf, .nilf, .nilf, .int .i64 (.lit 4), .int .i64 (.lit 3)] 46], .int .i64 (.lit 3), [.cells [.bool (.lit true), .int .u64 (.lit 9223372036854841346), .nilf, .nilf, .nilf, .nilf, .int .i64 (.lit 4), .int .i64 (.lit 3)] 46]⟩
set_option maxRecDepth 1000000 in
theorem klTk260 : runL [lTk259] lTk260 := by intro cs; kernel_rfl
theorem hlTk260 : (lit lTk260).Holds objs Try.prog := lit_holds (callable _ Try.func21 (by kernel_rfl) (by kernel_rfl)) (all_cons hlTk259 all_nil) klTk260
def lTk261 : Lit := ⟨68, [.ptr 0 0], [.cells [.bool (.lit true), .int .u64 (.lit 65538), .nilf, .nilf, .nilf, .nilf, .int .i64 (.lit 4), .int .i64 (.lit 3)] 46], .bool (.lit true), [.cells [.bool (.lit true), .int .u64 (.lit 65538), .nilf, .nilf, .nilf, .nilf, .int .i64 (.lit 4), .int .i64 (.lit 3)] 46]⟩
set_option maxRecDepth 1000000 in
theorem klTk261 : runL [] lTk261 := by intro cs; kernel_rfl
theorem hlTk261 : (lit lTk261).Holds objs Try.prog := lit_holds (callable _ Try.func68 (by kernel_rfl) (by kernel_rfl)) all_nil klTk261
def lTk262 : Lit := ⟨21, [.ptr 0 0], [.cells [.bool (.lit true), .int .u64 (.lit 65538), .nilf, .nilf, .nilf, .nilf, .int .i64 (.lit 4), .int .i64 (.lit 3)] 46], .int .i64 (.lit 3), [.cells [.bool (.lit true), .int .u64 (.lit 65538), .nilf, .nilf, .nilf, .nilf, .int .i64 (.lit 4), .int .i64 (.lit 3)] 46]⟩
set_option maxRecDepth 1000000 in
theorem klTk262 : runL [lTk261] lTk262 := by intro cs; kernel_rfl
theorem hlTk262 : (lit lTk262).Holds objs Try.prog := lit_holds (callable _ Try.func21 (by kernel_rfl) (by kernel_rfl)) (all_cons hlTk261 all_nil) klTk262
def lTk263 : Lit := ⟨54, [], [], .bool (.lit true), []⟩
set_option maxRecDepth 1000000 in
theorem klTk263 : runL [lTk0, lTk233, lTk242, lTk250, lTk252, lTk254, lTk256, lTk258, lTk260, lTk262] lTk263 := by intro cs; kernel_rfl
theorem hlTk263 : (lit lTk263).Holds objs Try.prog := lit_holds (callable _ Try.func54 (by kernel_rfl) (by kernel_rfl)) (all_cons hlTk0 (all_cons hlTk233 (all_cons hlTk242 (all_cons hlTk250 (all_cons hlTk252 (all_cons hlTk254 (all_cons hlTk256 (all_cons hlTk258 (all_cons hlTk260 (all_cons hlTk262 all_nil)))))))))) klTk263
end Go.Proofs.Ytbmbiiiacajolaa
