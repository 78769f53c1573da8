/- The forms of the objects of this seat. -/
import Derived.Test.YtdabdbbgaekmdaaGreatProg
import Derived.Test.YtdabdbbgaekmdaaGreatU
namespace Go.Proofs.YtdabdbbgaekmdaaGreat
set_option linter.unusedVariables false
set_option linter.unusedSimpArgs false
set_option linter.unusedSectionVars false
open Go

def memT : ObjT U := { nv := 8, hp := [.cells [.ptr 1 0, .int .i64 (.var 1), .int .i64 (.var 2), .int .i64 (.var 3), .int .u64 (.var 4), .int .u64 (.var 5), .bool (.var 6), .int .i64 (.var 7)] 123, .row .u64 147 0], isNil := false, ok := memOk, obj := memObj }
def memNilT : ObjT U := { nv := 0, hp := [], isNil := true, ok := fun ps => ps = [], obj := fun _ => .memNil }
def memZeroT : ObjT U := { nv := 0, hp := [.cells [.nilp, .int .i64 (.lit 0), .int .i64 (.lit 0), .int .i64 (.lit 0), .int .u64 (.lit 0), .int .u64 (.lit 0), .bool (.lit false), .int .i64 (.lit 0)] 123], isNil := false, ok := fun ps => ps = [], obj := fun _ => .memZero }
def rmemT : ObjT U := { nv := 8, hp := [.cells [.slice 1 (.var 1) (.var 1), .int .i64 (.var 2), .int .i64 (.var 3), .int .u64 (.var 4), .int .u64 (.var 5), .bool (.var 6), .int .i64 (.var 7)] 125, .row .u64 55 0], isNil := false, ok := rmemOk, obj := rmemObj }
def rmemNilT : ObjT U := { nv := 0, hp := [], isNil := true, ok := fun ps => ps = [], obj := fun _ => .rmemNil }
def takA : ObjT U := { nv := 5, hp := [.cells [.int .i64 (.var 0), .int .i64 (.var 1), .int .i64 (.var 2), .int .i64 (.var 3), .int .i64 (.var 4), .int .i64 (.lit 0), .int .u64 (.lit 0), .func (.func 93) [.ptr 0 0] [], .nilf, .bool (.lit true), .int .i64 (.lit 0), .ptr 1 0] 152, .cells [.int .i64 (.var 2), .int .i64 (.var 3), .int .i64 (.var 4), .int .u64 (.lit 0), .int .i64 (.lit 0), .int .i64 (.lit 0), .bool (.lit true), .bool (.lit false), .int .i64 (.lit 0), .func (.func 128) [] []] 192], isNil := false, ok := takAOk, obj := takAObj }
def takP1 : ObjT U := { nv := 8, hp := [.cells [.int .i64 (.var 0), .int .i64 (.var 1), .int .i64 (.var 2), .int .i64 (.var 3), .int .i64 (.var 4), .int .i64 (.lit 0), .int .u64 (.lit 0), .func (.func 93) [.ptr 0 0] [], .func (.func 93) [.ptr 0 0] [], .bool (.lit true), .int .i64 (.lit 0), .ptr 1 0] 152, .cells [.int .i64 (.var 2), .int .i64 (.var 3), .int .i64 (.var 4), .int .u64 (.var 5), .int .i64 (.var 6), .int .i64 (.var 7), .bool (.lit true), .bool (.lit false), .int .i64 (.lit 0), .func (.func 128) [] []] 192], isNil := false, ok := takP1Ok, obj := takP1Obj }
def takP2 : ObjT U := { nv := 8, hp := [.cells [.int .i64 (.var 0), .int .i64 (.var 1), .int .i64 (.var 2), .int .i64 (.var 3), .int .i64 (.var 4), .int .i64 (.lit 0), .int .u64 (.lit 0), .func (.func 93) [.ptr 0 0] [], .func (.func 93) [.ptr 0 0] [], .bool (.lit true), .int .i64 (.lit 0), .ptr 1 0] 152, .cells [.int .i64 (.var 2), .int .i64 (.var 3), .int .i64 (.var 4), .int .u64 (.var 5), .int .i64 (.var 6), .int .i64 (.var 7), .bool (.lit true), .bool (.lit false), .int .i64 (.lit 0), .func (.func 143) [] []] 192], isNil := false, ok := takP2Ok, obj := takP2Obj }
def takP3 : ObjT U := { nv := 8, hp := [.cells [.int .i64 (.var 0), .int .i64 (.var 1), .int .i64 (.var 2), .int .i64 (.var 3), .int .i64 (.var 4), .int .i64 (.lit 0), .int .u64 (.lit 0), .func (.func 93) [.ptr 0 0] [], .func (.func 93) [.ptr 0 0] [], .bool (.lit true), .int .i64 (.lit 0), .ptr 1 0] 152, .cells [.int .i64 (.var 2), .int .i64 (.var 3), .int .i64 (.var 4), .int .u64 (.var 5), .int .i64 (.var 6), .int .i64 (.var 7), .bool (.lit true), .bool (.lit false), .int .i64 (.lit 0), .func (.func 154) [] []] 192], isNil := false, ok := takP3Ok, obj := takP3Obj }
def takL : ObjT U := { nv := 10, hp := [.cells [.int .i64 (.var 0), .int .i64 (.var 1), .int .i64 (.var 2), .int .i64 (.var 3), .int .i64 (.var 4), .int .i64 (.var 5), .int .u64 (.var 6), .func (.func 131) [.ptr 0 0] [], .func (.func 131) [.ptr 0 0] [], .bool (.lit true), .int .i64 (.lit 0), .ptr 1 0] 152, .cells [.int .i64 (.var 2), .int .i64 (.var 3), .int .i64 (.var 4), .int .u64 (.var 7), .int .i64 (.var 8), .int .i64 (.var 9), .bool (.lit true), .bool (.lit true), .int .i64 (.lit 0), .func (.func 128) [] []] 192], isNil := false, ok := takLOk, obj := takLObj }
def takS : ObjT U := { nv := 10, hp := [.cells [.int .i64 (.var 0), .int .i64 (.var 1), .int .i64 (.var 2), .int .i64 (.var 3), .int .i64 (.var 4), .int .i64 (.var 5), .int .u64 (.var 6), .func (.func 146) [.ptr 0 0] [], .func (.func 146) [.ptr 0 0] [], .bool (.lit true), .int .i64 (.lit 0), .ptr 1 0] 152, .cells [.int .i64 (.var 2), .int .i64 (.var 3), .int .i64 (.var 4), .int .u64 (.var 7), .int .i64 (.var 8), .int .i64 (.var 9), .bool (.lit true), .bool (.lit true), .int .i64 (.lit 0), .func (.func 128) [] []] 192], isNil := false, ok := takSOk, obj := takSObj }
def takE1 : ObjT U := { nv := 11, hp := [.cells [.int .i64 (.var 0), .int .i64 (.var 1), .int .i64 (.var 2), .int .i64 (.var 3), .int .i64 (.var 4), .int .i64 (.var 5), .int .u64 (.var 6), .nilf, .nilf, .bool (.lit true), .int .i64 (.var 7), .ptr 1 0] 152, .cells [.int .i64 (.var 2), .int .i64 (.var 3), .int .i64 (.var 4), .int .u64 (.var 8), .int .i64 (.var 9), .int .i64 (.var 10), .bool (.lit true), .bool (.lit true), .int .i64 (.lit 15), .func (.func 143) [] []] 192], isNil := false, ok := takE1Ok, obj := takE1Obj }
def takE2 : ObjT U := { nv := 10, hp := [.cells [.int .i64 (.var 0), .int .i64 (.var 1), .int .i64 (.var 2), .int .i64 (.var 3), .int .i64 (.var 4), .int .i64 (.var 5), .int .u64 (.var 6), .nilf, .nilf, .bool (.lit true), .int .i64 (.lit 0), .ptr 1 0] 152, .cells [.int .i64 (.var 2), .int .i64 (.var 3), .int .i64 (.var 4), .int .u64 (.var 7), .int .i64 (.var 8), .int .i64 (.var 9), .bool (.lit true), .bool (.lit true), .int .i64 (.lit 0), .func (.func 128) [] []] 192], isNil := false, ok := takE2Ok, obj := takE2Obj }
def takNilT : ObjT U := { nv := 0, hp := [], isNil := true, ok := fun ps => ps = [], obj := fun _ => .takeNil }
def givA : ObjT U := { nv := 6, hp := [.cells [.int .i64 (.var 0), .int .i64 (.var 1), .int .i64 (.var 2), .int .i64 (.var 3), .int .i64 (.var 4), .int .i64 (.var 5), .int .u64 (.lit 0), .func (.func 82) [.ptr 0 0] [], .nilf, .bool (.lit true), .int .i64 (.lit 0), .ptr 1 0] 134, .cells [.int .i64 (.var 2), .int .i64 (.var 3), .int .i64 (.var 4), .int .u64 (.lit 0), .int .i64 (.var 5), .int .i64 (.lit 0), .bool (.lit true), .bool (.lit false), .int .i64 (.lit 0), .func (.func 117) [] []] 183], isNil := false, ok := givAOk, obj := givAObj }
def givL : ObjT U := { nv := 7, hp := [.cells [.int .i64 (.var 0), .int .i64 (.var 1), .int .i64 (.var 2), .int .i64 (.var 3), .int .i64 (.var 4), .int .i64 (.var 5), .int .u64 (.var 6), .func (.func 82) [.ptr 0 0] [], .func (.func 82) [.ptr 0 0] [], .bool (.lit true), .int .i64 (.lit 0), .ptr 1 0] 134, .cells [.int .i64 (.var 2), .int .i64 (.var 3), .int .i64 (.var 4), .int .u64 (.lit 0), .int .i64 (.var 5), .int .i64 (.lit 0), .bool (.lit true), .bool (.lit false), .int .i64 (.lit 0), .func (.func 117) [] []] 183], isNil := false, ok := givLOk, obj := givLObj }
def givS : ObjT U := { nv := 7, hp := [.cells [.int .i64 (.var 0), .int .i64 (.var 1), .int .i64 (.var 2), .int .i64 (.var 3), .int .i64 (.var 4), .int .i64 (.var 5), .int .u64 (.var 6), .func (.func 119) [.ptr 0 0] [], .func (.func 119) [.ptr 0 0] [], .bool (.lit true), .int .i64 (.lit 0), .ptr 1 0] 134, .cells [.int .i64 (.var 2), .int .i64 (.var 3), .int .i64 (.var 4), .int .u64 (.lit 0), .int .i64 (.var 5), .int .i64 (.lit 0), .bool (.lit true), .bool (.lit false), .int .i64 (.lit 0), .func (.func 117) [] []] 183], isNil := false, ok := givSOk, obj := givSObj }
def givP1 : ObjT U := { nv := 9, hp := [.cells [.int .i64 (.var 0), .int .i64 (.var 1), .int .i64 (.var 2), .int .i64 (.var 3), .int .i64 (.var 4), .int .i64 (.var 5), .int .u64 (.var 6), .func (.func 140) [.ptr 0 0] [], .func (.func 140) [.ptr 0 0] [], .bool (.lit true), .int .i64 (.lit 0), .ptr 1 0] 134, .cells [.int .i64 (.var 2), .int .i64 (.var 3), .int .i64 (.var 4), .int .u64 (.var 7), .int .i64 (.var 5), .int .i64 (.var 8), .bool (.lit true), .bool (.lit false), .int .i64 (.lit 0), .func (.func 117) [] []] 183], isNil := false, ok := givP1Ok, obj := givP1Obj }
def givP2 : ObjT U := { nv := 9, hp := [.cells [.int .i64 (.var 0), .int .i64 (.var 1), .int .i64 (.var 2), .int .i64 (.var 3), .int .i64 (.var 4), .int .i64 (.var 5), .int .u64 (.var 6), .func (.func 140) [.ptr 0 0] [], .func (.func 140) [.ptr 0 0] [], .bool (.lit true), .int .i64 (.lit 0), .ptr 1 0] 134, .cells [.int .i64 (.var 2), .int .i64 (.var 3), .int .i64 (.var 4), .int .u64 (.var 7), .int .i64 (.var 5), .int .i64 (.var 8), .bool (.lit true), .bool (.lit false), .int .i64 (.lit 0), .func (.func 138) [] []] 183], isNil := false, ok := givP2Ok, obj := givP2Obj }
def givP3 : ObjT U := { nv := 9, hp := [.cells [.int .i64 (.var 0), .int .i64 (.var 1), .int .i64 (.var 2), .int .i64 (.var 3), .int .i64 (.var 4), .int .i64 (.var 5), .int .u64 (.var 6), .func (.func 140) [.ptr 0 0] [], .func (.func 140) [.ptr 0 0] [], .bool (.lit true), .int .i64 (.lit 0), .ptr 1 0] 134, .cells [.int .i64 (.var 2), .int .i64 (.var 3), .int .i64 (.var 4), .int .u64 (.var 7), .int .i64 (.var 5), .int .i64 (.var 8), .bool (.lit true), .bool (.lit false), .int .i64 (.lit 0), .func (.func 149) [] []] 183], isNil := false, ok := givP3Ok, obj := givP3Obj }
def givE1 : ObjT U := { nv := 8, hp := [.cells [.int .i64 (.var 0), .int .i64 (.var 1), .int .i64 (.var 2), .int .i64 (.var 3), .int .i64 (.var 4), .int .i64 (.var 5), .int .u64 (.var 6), .nilf, .nilf, .bool (.lit true), .int .i64 (.var 7), .ptr 1 0] 134, .cells [.int .i64 (.var 2), .int .i64 (.var 3), .int .i64 (.var 4), .int .u64 (.lit 0), .int .i64 (.var 5), .int .i64 (.lit 0), .bool (.lit true), .bool (.lit false), .int .i64 (.lit 0), .func (.func 117) [] []] 183], isNil := false, ok := givE1Ok, obj := givE1Obj }
def givE2 : ObjT U := { nv := 9, hp := [.cells [.int .i64 (.var 0), .int .i64 (.var 1), .int .i64 (.var 2), .int .i64 (.var 3), .int .i64 (.var 4), .int .i64 (.var 5), .int .u64 (.var 6), .nilf, .nilf, .bool (.lit true), .int .i64 (.lit 0), .ptr 1 0] 134, .cells [.int .i64 (.var 2), .int .i64 (.var 3), .int .i64 (.var 4), .int .u64 (.var 7), .int .i64 (.var 5), .int .i64 (.var 8), .bool (.lit true), .bool (.lit true), .int .i64 (.lit 0), .func (.func 117) [] []] 183], isNil := false, ok := givE2Ok, obj := givE2Obj }
def givR : ObjT U := { nv := 7, hp := [.cells [.int .i64 (.var 0), .int .i64 (.var 1), .int .i64 (.var 2), .int .i64 (.var 3), .int .i64 (.var 4), .int .i64 (.var 5), .int .u64 (.lit 0), .nilf, .nilf, .bool (.lit true), .int .i64 (.var 6), .nilp] 134], isNil := false, ok := givROk, obj := givRObj }
def givNilT : ObjT U := { nv := 0, hp := [], isNil := true, ok := fun ps => ps = [], obj := fun _ => .giveNil }
def turA : ObjT U := { nv := 9, hp := [.cells [.int .i64 (.var 0), .int .i64 (.var 1), .int .i64 (.var 2), .int .i64 (.var 3), .int .i64 (.var 4), .int .i64 (.var 5), .int .u64 (.lit 0), .func (.func 90) [.ptr 0 0] [], .nilf, .bool (.lit true), .int .i64 (.lit 0), .int .i64 (.var 6), .int .i64 (.var 7), .int .i64 (.var 8)] 144], isNil := false, ok := turAOk, obj := turAObj }
def turL : ObjT U := { nv := 10, hp := [.cells [.int .i64 (.var 0), .int .i64 (.var 1), .int .i64 (.var 2), .int .i64 (.var 3), .int .i64 (.var 4), .int .i64 (.var 5), .int .u64 (.var 6), .func (.func 90) [.ptr 0 0] [], .func (.func 90) [.ptr 0 0] [], .bool (.lit true), .int .i64 (.lit 0), .int .i64 (.var 7), .int .i64 (.var 8), .int .i64 (.var 9)] 144], isNil := false, ok := turLOk, obj := turLObj }
def turS : ObjT U := { nv := 10, hp := [.cells [.int .i64 (.var 0), .int .i64 (.var 1), .int .i64 (.var 2), .int .i64 (.var 3), .int .i64 (.var 4), .int .i64 (.var 5), .int .u64 (.var 6), .func (.func 126) [.ptr 0 0] [], .func (.func 126) [.ptr 0 0] [], .bool (.lit true), .int .i64 (.lit 0), .int .i64 (.var 7), .int .i64 (.var 8), .int .i64 (.var 9)] 144], isNil := false, ok := turSOk, obj := turSObj }
def turE : ObjT U := { nv := 11, hp := [.cells [.int .i64 (.var 0), .int .i64 (.var 1), .int .i64 (.var 2), .int .i64 (.var 3), .int .i64 (.var 4), .int .i64 (.var 5), .int .u64 (.var 6), .nilf, .nilf, .bool (.lit true), .int .i64 (.var 7), .int .i64 (.var 8), .int .i64 (.var 9), .int .i64 (.var 10)] 144], isNil := false, ok := turEOk, obj := turEObj }
def turNilT : ObjT U := { nv := 0, hp := [], isNil := true, ok := fun ps => ps = [], obj := fun _ => .turnNil }
def keyA : ObjT U := { nv := 7, hp := [.cells [.int .i64 (.var 0), .int .i64 (.var 1), .int .i64 (.var 2), .int .i64 (.var 3), .int .i64 (.var 4), .int .i64 (.var 5), .int .u64 (.lit 0), .func (.func 85) [.ptr 0 0] [], .nilf, .bool (.lit true), .int .i64 (.lit 0), .int .u64 (.var 6)] 137], isNil := false, ok := keyAOk, obj := keyAObj }
def keyE : ObjT U := { nv := 8, hp := [.cells [.int .i64 (.var 0), .int .i64 (.var 1), .int .i64 (.var 2), .int .i64 (.var 3), .int .i64 (.var 4), .int .i64 (.var 5), .int .u64 (.lit 0), .nilf, .nilf, .bool (.lit true), .int .i64 (.var 7), .int .u64 (.var 6)] 137], isNil := false, ok := keyEOk, obj := keyEObj }
def keyNilT : ObjT U := { nv := 0, hp := [], isNil := true, ok := fun ps => ps = [], obj := fun _ => .keyNil }
def kofA : ObjT U := { nv := 6, hp := [.cells [.int .i64 (.var 0), .int .i64 (.var 1), .int .i64 (.var 2), .int .i64 (.var 3), .int .i64 (.var 4), .int .i64 (.var 5), .int .u64 (.lit 0), .func (.func 86) [.ptr 0 0] [], .nilf, .bool (.lit true), .int .i64 (.lit 0)] 139], isNil := false, ok := kofAOk, obj := kofAObj }
def kofE : ObjT U := { nv := 8, hp := [.cells [.int .i64 (.var 0), .int .i64 (.var 1), .int .i64 (.var 2), .int .i64 (.var 3), .int .i64 (.var 4), .int .i64 (.var 5), .int .u64 (.var 6), .nilf, .nilf, .bool (.lit true), .int .i64 (.var 7)] 139], isNil := false, ok := kofEOk, obj := kofEObj }
def kofNilT : ObjT U := { nv := 0, hp := [], isNil := true, ok := fun ps => ps = [], obj := fun _ => .keyOfNil }
def ropT : ObjT U := { nv := 13, hp := [.cells [.int .i64 (.var 0), .int .i64 (.var 1), .int .i64 (.var 2), .int .i64 (.var 3), .int .i64 (.var 4), .int .i64 (.var 5), .int .i64 (.var 6), .int .u64 (.var 7), .ptr 1 0, .nilp, .nils, .int .i64 (.lit 2), .int .i64 (.lit 0), .bool (.lit false), .int .i64 (.var 8)] 171, .cells [.int .i64 (.var 2), .int .i64 (.var 3), .int .i64 (.var 4), .int .i64 (.var 9), .int .u64 (.var 10), .int .i64 (.var 11), .int .i64 (.var 12)] 199], isNil := false, ok := ropTOk, obj := ropTObj }
def ropG1 : ObjT U := { nv := 9, hp := [.cells [.int .i64 (.var 0), .int .i64 (.var 1), .int .i64 (.var 2), .int .i64 (.var 3), .int .i64 (.var 4), .int .i64 (.var 5), .int .i64 (.var 6), .int .u64 (.var 7), .nilp, .nilp, .slice 1 (.lit 2) (.lit 2), .int .i64 (.lit 1), .int .i64 (.lit 0), .bool (.lit true), .int .i64 (.var 8)] 171, .cells [.int .i64 (.lit 5), .int .i64 (.lit 2)] 3], isNil := false, ok := ropG1Ok, obj := ropG1Obj }
def ropG2 : ObjT U := { nv := 11, hp := [.cells [.int .i64 (.var 0), .int .i64 (.var 1), .int .i64 (.var 2), .int .i64 (.var 3), .int .i64 (.var 4), .int .i64 (.var 5), .int .i64 (.var 6), .int .u64 (.var 7), .nilp, .ptr 2 0, .slice 1 (.lit 2) (.lit 2), .int .i64 (.lit 1), .int .i64 (.lit 0), .bool (.lit true), .int .i64 (.var 8)] 171, .cells [.int .i64 (.lit 5), .int .i64 (.lit 2)] 3, .cells [.int .i64 (.var 2), .int .i64 (.var 3), .int .i64 (.var 4), .int .i64 (.var 9), .int .u64 (.var 10), .int .i64 (.var 6), .int .i64 (.lit 0)] 203], isNil := false, ok := ropG2Ok, obj := ropG2Obj }
def ropU : ObjT U := { nv := 12, hp := [.cells [.int .i64 (.var 0), .int .i64 (.var 1), .int .i64 (.var 2), .int .i64 (.var 3), .int .i64 (.var 4), .int .i64 (.var 5), .int .i64 (.var 6), .int .u64 (.var 7), .nilp, .nilp, .slice 1 (.lit 1) (.lit 1), .int .i64 (.var 9), .int .i64 (.var 10), .bool (.lit false), .int .i64 (.var 11)] 171, .cells [.int .i64 (.var 8)] 3], isNil := false, ok := ropUOk, obj := ropUObj }
def ropN : ObjT U := { nv := 1, hp := [.cells [.int .i64 (.lit 0), .int .i64 (.lit 0), .int .i64 (.lit 0), .int .i64 (.lit 0), .int .i64 (.lit 0), .int .i64 (.lit 9), .int .i64 (.lit 0), .int .u64 (.lit 0), .nilp, .nilp, .nils, .int .i64 (.lit 0), .int .i64 (.lit 0), .bool (.lit false), .int .i64 (.var 0)] 171], isNil := false, ok := ropNOk, obj := ropNObj }
def ropNilT : ObjT U := { nv := 0, hp := [], isNil := true, ok := fun ps => ps = [], obj := fun _ => .ropNil }
def rkeyS : ObjT U := { nv := 4, hp := [.cells [.int .i64 (.var 0), .bool (.lit false), .int .u64 (.var 1), .int .i64 (.var 2), .int .i64 (.var 3)] 174], isNil := false, ok := rkeySOk, obj := rkeySObj }
def rkeyL : ObjT U := { nv := 4, hp := [.cells [.int .i64 (.var 0), .bool (.lit true), .int .u64 (.var 1), .int .i64 (.var 2), .int .i64 (.var 3)] 174], isNil := false, ok := rkeyLOk, obj := rkeyLObj }
def rkeyNilT : ObjT U := { nv := 0, hp := [], isNil := true, ok := fun ps => ps = [], obj := fun _ => .rkeyNil }
def objs : List (ObjT U) := [memT, memNilT, memZeroT, rmemT, rmemNilT, takA, takP1, takP2, takP3, takL, takS, takE1, takE2, takNilT, givA, givL, givS, givP1, givP2, givP3, givE1, givE2, givR, givNilT, turA, turL, turS, turE, turNilT, keyA, keyE, keyNilT, kofA, kofE, kofNilT, ropT, ropG1, ropG2, ropU, ropN, ropNilT, rkeyS, rkeyL, rkeyNilT]

theorem objs_all {p : Nat → ObjT U → Prop} (h0 : p 0 memT) (h1 : p 1 memNilT) (h2 : p 2 memZeroT) (h3 : p 3 rmemT) (h4 : p 4 rmemNilT) (h5 : p 5 takA) (h6 : p 6 takP1) (h7 : p 7 takP2) (h8 : p 8 takP3) (h9 : p 9 takL) (h10 : p 10 takS) (h11 : p 11 takE1) (h12 : p 12 takE2) (h13 : p 13 takNilT) (h14 : p 14 givA) (h15 : p 15 givL) (h16 : p 16 givS) (h17 : p 17 givP1) (h18 : p 18 givP2) (h19 : p 19 givP3) (h20 : p 20 givE1) (h21 : p 21 givE2) (h22 : p 22 givR) (h23 : p 23 givNilT) (h24 : p 24 turA) (h25 : p 25 turL) (h26 : p 26 turS) (h27 : p 27 turE) (h28 : p 28 turNilT) (h29 : p 29 keyA) (h30 : p 30 keyE) (h31 : p 31 keyNilT) (h32 : p 32 kofA) (h33 : p 33 kofE) (h34 : p 34 kofNilT) (h35 : p 35 ropT) (h36 : p 36 ropG1) (h37 : p 37 ropG2) (h38 : p 38 ropU) (h39 : p 39 ropN) (h40 : p 40 ropNilT) (h41 : p 41 rkeyS) (h42 : p 42 rkeyL) (h43 : p 43 rkeyNilT) : ∀ (t : Nat) (T : ObjT U), objs[t]? = some T → p t T := by
  intro t T h
  match t, h with
  | 0, h => cases h; exact h0
  | 1, h => cases h; exact h1
  | 2, h => cases h; exact h2
  | 3, h => cases h; exact h3
  | 4, h => cases h; exact h4
  | 5, h => cases h; exact h5
  | 6, h => cases h; exact h6
  | 7, h => cases h; exact h7
  | 8, h => cases h; exact h8
  | 9, h => cases h; exact h9
  | 10, h => cases h; exact h10
  | 11, h => cases h; exact h11
  | 12, h => cases h; exact h12
  | 13, h => cases h; exact h13
  | 14, h => cases h; exact h14
  | 15, h => cases h; exact h15
  | 16, h => cases h; exact h16
  | 17, h => cases h; exact h17
  | 18, h => cases h; exact h18
  | 19, h => cases h; exact h19
  | 20, h => cases h; exact h20
  | 21, h => cases h; exact h21
  | 22, h => cases h; exact h22
  | 23, h => cases h; exact h23
  | 24, h => cases h; exact h24
  | 25, h => cases h; exact h25
  | 26, h => cases h; exact h26
  | 27, h => cases h; exact h27
  | 28, h => cases h; exact h28
  | 29, h => cases h; exact h29
  | 30, h => cases h; exact h30
  | 31, h => cases h; exact h31
  | 32, h => cases h; exact h32
  | 33, h => cases h; exact h33
  | 34, h => cases h; exact h34
  | 35, h => cases h; exact h35
  | 36, h => cases h; exact h36
  | 37, h => cases h; exact h37
  | 38, h => cases h; exact h38
  | 39, h => cases h; exact h39
  | 40, h => cases h; exact h40
  | 41, h => cases h; exact h41
  | 42, h => cases h; exact h42
  | 43, h => cases h; exact h43
  | t + 44, h => cases h
theorem objsOk : ObjsOk objs := by
  refine ⟨objs_all ?_ ?_ ?_ ?_ ?_ ?_ ?_ ?_ ?_ ?_ ?_ ?_ ?_ ?_ ?_ ?_ ?_ ?_ ?_ ?_ ?_ ?_ ?_ ?_ ?_ ?_ ?_ ?_ ?_ ?_ ?_ ?_ ?_ ?_ ?_ ?_ ?_ ?_ ?_ ?_ ?_ ?_ ?_ ?_, objs_all ?_ ?_ ?_ ?_ ?_ ?_ ?_ ?_ ?_ ?_ ?_ ?_ ?_ ?_ ?_ ?_ ?_ ?_ ?_ ?_ ?_ ?_ ?_ ?_ ?_ ?_ ?_ ?_ ?_ ?_ ?_ ?_ ?_ ?_ ?_ ?_ ?_ ?_ ?_ ?_ ?_ ?_ ?_ ?_, objs_all ?_ ?_ ?_ ?_ ?_ ?_ ?_ ?_ ?_ ?_ ?_ ?_ ?_ ?_ ?_ ?_ ?_ ?_ ?_ ?_ ?_ ?_ ?_ ?_ ?_ ?_ ?_ ?_ ?_ ?_ ?_ ?_ ?_ ?_ ?_ ?_ ?_ ?_ ?_ ?_ ?_ ?_ ?_ ?_, objs_all ?_ ?_ ?_ ?_ ?_ ?_ ?_ ?_ ?_ ?_ ?_ ?_ ?_ ?_ ?_ ?_ ?_ ?_ ?_ ?_ ?_ ?_ ?_ ?_ ?_ ?_ ?_ ?_ ?_ ?_ ?_ ?_ ?_ ?_ ?_ ?_ ?_ ?_ ?_ ?_ ?_ ?_ ?_ ?_⟩
  all_goals first
    | (rintro ps ⟨l, s, k, a, o, n, h, N, rfl, _⟩; rfl)
    | (rintro ps ⟨_, rfl, _⟩; rfl)
    | (rintro ps ⟨_, _, _, _, rfl, _⟩; rfl)
    | (rintro ps ⟨_, _, _, _, _, rfl, _⟩; rfl)
    | (rintro ps ⟨_, _, _, _, _, _, rfl, _⟩; rfl)
    | (rintro ps ⟨_, _, _, _, _, _, _, rfl, _⟩; rfl)
    | (rintro ps ⟨_, _, _, _, _, _, _, _, rfl, _⟩; rfl)
    | (rintro ps ⟨_, _, _, _, _, _, _, _, _, rfl, _⟩; rfl)
    | (rintro ps ⟨_, _, _, _, _, _, _, _, _, _, rfl, _⟩; rfl)
    | (rintro ps ⟨_, _, _, _, _, _, _, _, _, _, _, rfl, _⟩; rfl)
    | (rintro ps ⟨_, _, _, _, _, _, _, _, _, _, _, _, rfl, _⟩; rfl)
    | (rintro ps ⟨_, _, _, _, _, _, _, _, _, _, _, _, _, rfl, _⟩; rfl)
    | (rintro ps rfl; rfl)
    | (intro h; cases h; done)
    | (intro _; rfl)
    | (intro _; exact ⟨_, _, rfl⟩)
    | (intro n h hh; match n, hh with | 0, hh => cases hh; rfl | n + 1, hh => cases hh)
    | (intro n h hh; match n, hh with | 0, hh => cases hh; rfl | 1, hh => cases hh; rfl | n + 2, hh => cases hh)
    | (intro n h hh; match n, hh with | 0, hh => cases hh; rfl | 1, hh => cases hh; rfl | 2, hh => cases hh; rfl | n + 3, hh => cases hh)
    | (intro n h hh; match n, hh with | 0, hh => cases hh; rfl | 1, hh => cases hh; rfl | 2, hh => cases hh; rfl | 3, hh => cases hh; rfl | n + 4, hh => cases hh)
    | (intro n h hh; match n, hh with | 0, hh => cases hh; rfl | 1, hh => cases hh; rfl | 2, hh => cases hh; rfl | 3, hh => cases hh; rfl | 4, hh => cases hh; rfl | n + 5, hh => cases hh)
    | (intro n h hh; cases hh)
def kinds : List Nat := [1, 2, 3, 4, 5, 6, 6, 6, 6, 6, 6, 6, 6, 7, 8, 8, 8, 8, 8, 8, 8, 8, 8, 9, 10, 10, 10, 10, 11, 12, 12, 13, 14, 14, 15, 16, 16, 16, 16, 16, 17, 18, 18, 19]
/-- which kind of object a form has -/
theorem kind_of : ∀ (t : Nat) (T : ObjT U), objs[t]? = some T → ∀ ps, T.ok ps → (T.obj ps).kind = kinds.getD t 0 := by
  refine objs_all ?_ ?_ ?_ ?_ ?_ ?_ ?_ ?_ ?_ ?_ ?_ ?_ ?_ ?_ ?_ ?_ ?_ ?_ ?_ ?_ ?_ ?_ ?_ ?_ ?_ ?_ ?_ ?_ ?_ ?_ ?_ ?_ ?_ ?_ ?_ ?_ ?_ ?_ ?_ ?_ ?_ ?_ ?_ ?_
  all_goals first
    | (rintro ps ⟨l, s, k, a, o, n, h, N, rfl, _⟩; rfl)
    | (rintro ps ⟨_, rfl, _⟩; rfl)
    | (rintro ps ⟨_, _, _, _, rfl, _⟩; rfl)
    | (rintro ps ⟨_, _, _, _, _, rfl, _⟩; rfl)
    | (rintro ps ⟨_, _, _, _, _, _, rfl, _⟩; rfl)
    | (rintro ps ⟨_, _, _, _, _, _, _, rfl, _⟩; rfl)
    | (rintro ps ⟨_, _, _, _, _, _, _, _, rfl, _⟩; rfl)
    | (rintro ps ⟨_, _, _, _, _, _, _, _, _, rfl, _⟩; rfl)
    | (rintro ps ⟨_, _, _, _, _, _, _, _, _, _, rfl, _⟩; rfl)
    | (rintro ps ⟨_, _, _, _, _, _, _, _, _, _, _, rfl, _⟩; rfl)
    | (rintro ps ⟨_, _, _, _, _, _, _, _, _, _, _, _, rfl, _⟩; rfl)
    | (rintro ps ⟨_, _, _, _, _, _, _, _, _, _, _, _, _, rfl, _⟩; rfl)
    | (rintro ps rfl; rfl)
theorem nomore_kind {u : U} {ts : List Nat} (h : ∀ t, t < 44 → t ∉ ts → kinds.getD t 0 ≠ u.kind) : ∀ (t : Nat) (T : ObjT U) (ps : List (EV U)), objs[t]? = some T → t ∉ ts → ps.length = T.nv → T.ok ps → some (EV.u u) ≠ some (EV.u (T.obj ps)) := by
  intro t T ps ht hn _ hok e
  injection e with e; injection e with e
  have hk := kind_of t T ht ps hok
  rw [← e] at hk
  exact h t (List.getElem?_eq_some_iff.1 ht).1 hn hk.symm
theorem mixed : Tryz.prog.follows .mixedOrders = true := by kernel_rfl
def cx (P : Program) (cts : List (Ctr U)) : Cx U := { P := P, cts := cts, objs := objs, loops := [], hints := [] }
end Go.Proofs.YtdabdbbgaekmdaaGreat
