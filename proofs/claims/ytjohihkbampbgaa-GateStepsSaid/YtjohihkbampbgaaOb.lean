/- The forms of the objects of this seat. -/
import Derived.Test.YtjohihkbampbgaaProg
import Derived.Test.YtjohihkbampbgaaU
namespace Go.Proofs.Ytjohihkbampbgaa
set_option linter.unusedVariables false
set_option linter.unusedSimpArgs false
set_option linter.unusedSectionVars false
open Go

def memT : ObjT U := { nv := 8, hp := [.cells [.ptr 1 0, .int .i64 (.var 1), .int .i64 (.var 2), .int .i64 (.var 3), .int .u64 (.var 4), .int .u64 (.var 5), .bool (.var 6), .int .i64 (.var 7)] 150, .row .u64 148 0], isNil := false, ok := memOk, obj := memObj }
def memNilT : ObjT U := { nv := 0, hp := [], isNil := true, ok := fun ps => ps = [], obj := fun _ => .memNil }
def memZeroT : ObjT U := { nv := 0, hp := [.cells [.nilp, .int .i64 (.lit 0), .int .i64 (.lit 0), .int .i64 (.lit 0), .int .u64 (.lit 0), .int .u64 (.lit 0), .bool (.lit false), .int .i64 (.lit 0)] 150], isNil := false, ok := fun ps => ps = [], obj := fun _ => .memZero }
def rmemT : ObjT U := { nv := 8, hp := [.cells [.slice 1 (.var 1) (.var 1), .int .i64 (.var 2), .int .i64 (.var 3), .int .u64 (.var 4), .int .u64 (.var 5), .bool (.var 6), .int .i64 (.var 7)] 156, .row .u64 35 0], isNil := false, ok := rmemOk, obj := rmemObj }
def rmemNilT : ObjT U := { nv := 0, hp := [], isNil := true, ok := fun ps => ps = [], obj := fun _ => .rmemNil }
def passT1 : ObjT U := { nv := 4, hp := [.cells [.bool (.lit true), .int .i64 (.var 0), .int .u64 (.var 1), .int .u64 (.var 2), .int .u64 (.var 3), .func (.func 77) [.ptr 0 0] [], .int .i64 (.lit 0)] 38], isNil := false, ok := passOk4, obj := passObj1 }
def passT2 : ObjT U := { nv := 4, hp := [.cells [.bool (.lit true), .int .i64 (.var 0), .int .u64 (.var 1), .int .u64 (.var 2), .int .u64 (.var 3), .func (.func 118) [.ptr 0 0] [], .int .i64 (.lit 0)] 38], isNil := false, ok := passOk4, obj := passObj2 }
def passT9 : ObjT U := { nv := 5, hp := [.cells [.bool (.lit true), .int .i64 (.var 0), .int .u64 (.var 1), .int .u64 (.var 2), .int .u64 (.var 3), .nilf, .int .i64 (.var 4)] 38], isNil := false, ok := passOk5, obj := passObj9 }
def passNilT : ObjT U := { nv := 0, hp := [], isNil := true, ok := fun ps => ps = [], obj := fun _ => .passNil }
def rpassT : ObjT U := { nv := 6, hp := [.cells [.int .i64 (.var 0), .int .u64 (.var 1), .int .u64 (.var 2), .int .i64 (.var 3), .int .u64 (.var 4), .int .i64 (.var 5)] 144], isNil := false, ok := rpassOk, obj := rpassObj }
def rpassNilT : ObjT U := { nv := 0, hp := [], isNil := true, ok := fun ps => ps = [], obj := fun _ => .rpassNil }
def objs : List (ObjT U) := [memT, memNilT, memZeroT, rmemT, rmemNilT, passT1, passT2, passT9, passNilT, rpassT, rpassNilT]

theorem objs_all {p : Nat → ObjT U → Prop} (h0 : p 0 memT) (h1 : p 1 memNilT) (h2 : p 2 memZeroT) (h3 : p 3 rmemT) (h4 : p 4 rmemNilT) (h5 : p 5 passT1) (h6 : p 6 passT2) (h7 : p 7 passT9) (h8 : p 8 passNilT) (h9 : p 9 rpassT) (h10 : p 10 rpassNilT) : ∀ (t : Nat) (T : ObjT U), objs[t]? = some T → p t T := by
  intro t T h
  match t, h with
  | 0, h => cases h; exact h0
  | 1, h => cases h; exact h1
  | 2, h => cases h; exact h2
  | 3, h => cases h; exact h3
  | 4, h => cases h; exact h4
  | 5, h => cases h; exact h5
  | 6, h => cases h; exact h6
  | 7, h => cases h; exact h7
  | 8, h => cases h; exact h8
  | 9, h => cases h; exact h9
  | 10, h => cases h; exact h10
  | t + 11, h => cases h
theorem objsOk : ObjsOk objs := by
  refine ⟨objs_all ?_ ?_ ?_ ?_ ?_ ?_ ?_ ?_ ?_ ?_ ?_, objs_all ?_ ?_ ?_ ?_ ?_ ?_ ?_ ?_ ?_ ?_ ?_, objs_all ?_ ?_ ?_ ?_ ?_ ?_ ?_ ?_ ?_ ?_ ?_, objs_all ?_ ?_ ?_ ?_ ?_ ?_ ?_ ?_ ?_ ?_ ?_⟩
  all_goals first
    | (rintro ps ⟨l, s, k, a, o, n, h, N, rfl, _⟩; rfl)
    | (rintro ps ⟨_, _, _, _, rfl⟩; rfl)
    | (rintro ps ⟨_, _, _, _, _, rfl⟩; rfl)
    | (rintro ps ⟨_, _, _, _, _, _, rfl⟩; rfl)
    | (rintro ps rfl; rfl)
    | (intro h; cases h; done)
    | (intro _; rfl)
    | (intro _; exact ⟨_, _, rfl⟩)
    | (intro n h hh; match n, hh with | 0, hh => cases hh; rfl | 1, hh => cases hh; rfl | n + 2, hh => cases hh)
    | (intro n h hh; match n, hh with | 0, hh => cases hh; rfl | n + 1, hh => cases hh)
    | (intro n h hh; cases hh)
theorem mixed : Try.prog.follows .mixedOrders = true := by kernel_rfl
def cx (P : Program) (cts : List (Ctr U)) : Cx U := ⟨P, cts, objs, [], []⟩
end Go.Proofs.Ytjohihkbampbgaa
