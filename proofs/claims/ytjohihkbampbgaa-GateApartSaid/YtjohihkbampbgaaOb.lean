/- The forms of the objects of this seat. -/
import Derived.Test.YtjohihkbampbgaaProg
import Derived.Test.YtjohihkbampbgaaU
namespace Go.Proofs.Ytjohihkbampbgaa
set_option linter.unusedVariables false
set_option linter.unusedSimpArgs false
set_option linter.unusedSectionVars false
open Go

def memT : ObjT U := { nv := 8, hp := [.cells [.ptr 1 0, .int .i64 (.var 1), .int .i64 (.var 2), .int .i64 (.var 3), .int .u64 (.var 4), .int .u64 (.var 5), .bool (.var 6), .int .i64 (.var 7)] 150, .row .u64 148 0], isNil := false, ok := memOk, obj := memObj }
def memNilT : ObjT U := { nv := 0, hp := [], isNil := true, ok := fun ps => ps = [], obj := fun _ => .memNil }
def memZeroT : ObjT U := { nv := 0, hp := [.cells [.nilp, .int .i64 (.lit 0), .int .i64 (.lit 0), .int .i64 (.lit 0), .int .u64 (.lit 0), .int .u64 (.lit 0), .bool (.lit false), .int .i64 (.lit 0)] 150], isNil := false, ok := fun ps => ps = [], obj := fun _ => .memZero }
def rmemT : ObjT U := { nv := 8, hp := [.cells [.slice 1 (.var 1) (.var 1), .int .i64 (.var 2), .int .i64 (.var 3), .int .u64 (.var 4), .int .u64 (.var 5), .bool (.var 6), .int .i64 (.var 7)] 156, .row .u64 35 0], isNil := false, ok := rmemOk, obj := rmemObj }
def rmemNilT : ObjT U := { nv := 0, hp := [], isNil := true, ok := fun ps => ps = [], obj := fun _ => .rmemNil }
def passT1 : ObjT U := { nv := 4, hp := [.cells [.bool (.lit true), .int .i64 (.var 0), .int .u64 (.var 1), .int .u64 (.var 2), .int .u64 (.var 3), .func (.func 77) [.ptr 0 0] [], .int .i64 (.lit 0)] 38], isNil := false, ok := passOk4, obj := passObj1 }
def passT2 : ObjT U := { nv := 4, hp := [.cells [.bool (.lit true), .int .i64 (.var 0), .int .u64 (.var 1), .int .u64 (.var 2), .int .u64 (.var 3), .func (.func 118) [.ptr 0 0] [], .int .i64 (.lit 0)] 38], isNil := false, ok := passOk4, obj := passObj2 }
def passT9 : ObjT U := { nv := 5, hp := [.cells [.bool (.lit true), .int .i64 (.var 0), .int .u64 (.var 1), .int .u64 (.var 2), .int .u64 (.var 3), .nilf, .int .i64 (.var 4)] 38], isNil := false, ok := passOk5, obj := passObj9 }
def passNilT : ObjT U := { nv := 0, hp := [], isNil := true, ok := fun ps => ps = [], obj := fun _ => .passNil }
def rpassT : ObjT U := { nv := 6, hp := [.cells [.int .i64 (.var 0), .int .u64 (.var 1), .int .u64 (.var 2), .int .i64 (.var 3), .int .u64 (.var 4), .int .i64 (.var 5)] 144], isNil := false, ok := rpassOk, obj := rpassObj }
def rpassNilT : ObjT U := { nv := 0, hp := [], isNil := true, ok := fun ps => ps = [], obj := fun _ => .rpassNil }
def epinT : ObjT U := { nv := 7, hp := [.cells [.func (.func 91) [.ptr 0 0] [], .func (.func 92) [.ptr 0 0] [], .func (.func 93) [.ptr 0 0] [], .int .i64 (.var 0), .bool (.lit true), .int .i64 (.var 1), .int .i64 (.var 2), .int .i64 (.var 3), .int .i64 (.var 4), .int .i64 (.var 5), .int .u32 (.var 6)] 118], isNil := false, ok := epinOk, obj := epinObj }
def epinBadT : ObjT U := { nv := 3, hp := [.cells [.nilf, .nilf, .nilf, .int .i64 (.lit (-1)), .bool (.lit true), .int .i64 (.lit 3), .int .i64 (.var 0), .int .i64 (.var 1), .int .i64 (.var 2), .int .i64 (.lit 0), .int .u32 (.lit 0)] 118], isNil := false, ok := ok3, obj := epinBadObj }
def epinNilT : ObjT U := { nv := 0, hp := [], isNil := true, ok := fun ps => ps = [], obj := fun _ => .epinNil }
def repinT : ObjT U := { nv := 7, hp := [.cells [.int .i64 (.var 0), .int .i64 (.var 1), .int .i64 (.var 2), .int .i64 (.var 3), .int .i64 (.var 4), .int .i64 (.var 5), .int .i64 (.var 6)] 186], isNil := false, ok := repinOk, obj := repinObj }
def repinNilT : ObjT U := { nv := 0, hp := [], isNil := true, ok := fun ps => ps = [], obj := fun _ => .repinNil }
def eunpT : ObjT U := { nv := 3, hp := [.cells [.func (.func 97) [.ptr 0 0] [], .nilf, .nilf, .int .i64 (.var 0), .bool (.lit true), .int .i64 (.var 1), .int .i64 (.var 2)] 120], isNil := false, ok := eunpOk, obj := eunpObj }
def eunpBadT : ObjT U := { nv := 1, hp := [.cells [.nilf, .nilf, .nilf, .int .i64 (.lit (-1)), .bool (.lit true), .int .i64 (.lit 3), .int .i64 (.var 0)] 120], isNil := false, ok := ok1, obj := eunpBadObj }
def eunpNilT : ObjT U := { nv := 0, hp := [], isNil := true, ok := fun ps => ps = [], obj := fun _ => .eunpNil }
def reunpT : ObjT U := { nv := 6, hp := [.cells [.int .i64 (.var 0), .int .i64 (.var 1), .int .i64 (.var 2), .int .i64 (.var 3), .int .i64 (.var 4), .int .i64 (.var 5)] 188], isNil := false, ok := reunpOk, obj := reunpObj }
def reunpNilT : ObjT U := { nv := 0, hp := [], isNil := true, ok := fun ps => ps = [], obj := fun _ => .reunpNil }
def eadvT : ObjT U := { nv := 9, hp := [.cells [.func (.func 101) [.ptr 0 0] [], .func (.func 102) [.ptr 0 0] [], .func (.func 103) [.ptr 0 0] [], .int .i64 (.var 0), .bool (.lit true), .int .i64 (.var 1), .int .i64 (.var 2), .int .i64 (.var 3), .int .i64 (.var 4), .int .i64 (.var 5), .int .i64 (.var 6), .int .u64 (.var 7), .int .i64 (.var 8)] 122], isNil := false, ok := eadvOk, obj := eadvObj }
def eadvBadT : ObjT U := { nv := 5, hp := [.cells [.nilf, .nilf, .nilf, .int .i64 (.lit (-1)), .bool (.lit true), .int .i64 (.lit 3), .int .i64 (.var 0), .int .i64 (.var 1), .int .i64 (.var 2), .int .i64 (.var 3), .int .i64 (.var 4), .int .u64 (.lit 0), .int .i64 (.lit 0)] 122], isNil := false, ok := ok5, obj := eadvBadObj }
def eadvNilT : ObjT U := { nv := 0, hp := [], isNil := true, ok := fun ps => ps = [], obj := fun _ => .eadvNil }
def readvT : ObjT U := { nv := 9, hp := [.cells [.int .i64 (.var 0), .int .i64 (.var 1), .int .i64 (.var 2), .int .i64 (.var 3), .int .i64 (.var 4), .int .i64 (.var 5), .int .u64 (.var 6), .int .i64 (.var 7), .int .i64 (.var 8)] 190], isNil := false, ok := readvOk, obj := readvObj }
def readvNilT : ObjT U := { nv := 0, hp := [], isNil := true, ok := fun ps => ps = [], obj := fun _ => .readvNil }
def objs : List (ObjT U) := [memT, memNilT, memZeroT, rmemT, rmemNilT, passT1, passT2, passT9, passNilT, rpassT, rpassNilT, epinT, epinBadT, epinNilT, repinT, repinNilT, eunpT, eunpBadT, eunpNilT, reunpT, reunpNilT, eadvT, eadvBadT, eadvNilT, readvT, readvNilT]

theorem objs_all {p : Nat → ObjT U → Prop} (h0 : p 0 memT) (h1 : p 1 memNilT) (h2 : p 2 memZeroT) (h3 : p 3 rmemT) (h4 : p 4 rmemNilT) (h5 : p 5 passT1) (h6 : p 6 passT2) (h7 : p 7 passT9) (h8 : p 8 passNilT) (h9 : p 9 rpassT) (h10 : p 10 rpassNilT) (h11 : p 11 epinT) (h12 : p 12 epinBadT) (h13 : p 13 epinNilT) (h14 : p 14 repinT) (h15 : p 15 repinNilT) (h16 : p 16 eunpT) (h17 : p 17 eunpBadT) (h18 : p 18 eunpNilT) (h19 : p 19 reunpT) (h20 : p 20 reunpNilT) (h21 : p 21 eadvT) (h22 : p 22 eadvBadT) (h23 : p 23 eadvNilT) (h24 : p 24 readvT) (h25 : p 25 readvNilT) : ∀ (t : Nat) (T : ObjT U), objs[t]? = some T → p t T := by
  intro t T h
  match t, h with
  | 0, h => cases h; exact h0
  | 1, h => cases h; exact h1
  | 2, h => cases h; exact h2
  | 3, h => cases h; exact h3
  | 4, h => cases h; exact h4
  | 5, h => cases h; exact h5
  | 6, h => cases h; exact h6
  | 7, h => cases h; exact h7
  | 8, h => cases h; exact h8
  | 9, h => cases h; exact h9
  | 10, h => cases h; exact h10
  | 11, h => cases h; exact h11
  | 12, h => cases h; exact h12
  | 13, h => cases h; exact h13
  | 14, h => cases h; exact h14
  | 15, h => cases h; exact h15
  | 16, h => cases h; exact h16
  | 17, h => cases h; exact h17
  | 18, h => cases h; exact h18
  | 19, h => cases h; exact h19
  | 20, h => cases h; exact h20
  | 21, h => cases h; exact h21
  | 22, h => cases h; exact h22
  | 23, h => cases h; exact h23
  | 24, h => cases h; exact h24
  | 25, h => cases h; exact h25
  | t + 26, h => cases h
theorem objsOk : ObjsOk objs := by
  refine ⟨objs_all ?_ ?_ ?_ ?_ ?_ ?_ ?_ ?_ ?_ ?_ ?_ ?_ ?_ ?_ ?_ ?_ ?_ ?_ ?_ ?_ ?_ ?_ ?_ ?_ ?_ ?_, objs_all ?_ ?_ ?_ ?_ ?_ ?_ ?_ ?_ ?_ ?_ ?_ ?_ ?_ ?_ ?_ ?_ ?_ ?_ ?_ ?_ ?_ ?_ ?_ ?_ ?_ ?_, objs_all ?_ ?_ ?_ ?_ ?_ ?_ ?_ ?_ ?_ ?_ ?_ ?_ ?_ ?_ ?_ ?_ ?_ ?_ ?_ ?_ ?_ ?_ ?_ ?_ ?_ ?_, objs_all ?_ ?_ ?_ ?_ ?_ ?_ ?_ ?_ ?_ ?_ ?_ ?_ ?_ ?_ ?_ ?_ ?_ ?_ ?_ ?_ ?_ ?_ ?_ ?_ ?_ ?_⟩
  all_goals first
    | (rintro ps ⟨l, s, k, a, o, n, h, N, rfl, _⟩; rfl)
    | (rintro ps ⟨_, rfl⟩; rfl)
    | (rintro ps ⟨_, _, _, rfl⟩; rfl)
    | (rintro ps ⟨_, _, _, _, rfl⟩; rfl)
    | (rintro ps ⟨_, _, _, _, _, rfl⟩; rfl)
    | (rintro ps ⟨_, _, _, _, _, _, rfl⟩; rfl)
    | (rintro ps ⟨_, _, _, rfl, _⟩; rfl)
    | (rintro ps ⟨_, _, _, _, _, _, rfl, _⟩; rfl)
    | (rintro ps ⟨_, _, _, _, _, _, _, rfl, _⟩; rfl)
    | (rintro ps ⟨_, _, _, _, _, _, _, _, _, rfl, _⟩; rfl)
    | (rintro ps rfl; rfl)
    | (intro h; cases h; done)
    | (intro _; rfl)
    | (intro _; exact ⟨_, _, rfl⟩)
    | (intro n h hh; match n, hh with | 0, hh => cases hh; rfl | 1, hh => cases hh; rfl | n + 2, hh => cases hh)
    | (intro n h hh; match n, hh with | 0, hh => cases hh; rfl | n + 1, hh => cases hh)
    | (intro n h hh; cases hh)
def kinds : List Nat := [1, 2, 3, 4, 5, 6, 6, 6, 7, 8, 9, 10, 10, 11, 12, 13, 14, 14, 15, 16, 17, 18, 18, 19, 20, 21]
/-- which kind of object a form has -/
theorem kind_of : ∀ (t : Nat) (T : ObjT U), objs[t]? = some T → ∀ ps, T.ok ps → (T.obj ps).kind = kinds.getD t 0 := by
  refine objs_all ?_ ?_ ?_ ?_ ?_ ?_ ?_ ?_ ?_ ?_ ?_ ?_ ?_ ?_ ?_ ?_ ?_ ?_ ?_ ?_ ?_ ?_ ?_ ?_ ?_ ?_
  all_goals first
    | (rintro ps ⟨l, s, k, a, o, n, h, N, rfl, _⟩; rfl)
    | (rintro ps ⟨_, rfl⟩; rfl)
    | (rintro ps ⟨_, _, _, rfl⟩; rfl)
    | (rintro ps ⟨_, _, _, _, rfl⟩; rfl)
    | (rintro ps ⟨_, _, _, _, _, rfl⟩; rfl)
    | (rintro ps ⟨_, _, _, _, _, _, rfl⟩; rfl)
    | (rintro ps ⟨_, _, _, rfl, _⟩; rfl)
    | (rintro ps ⟨_, _, _, _, _, _, rfl, _⟩; rfl)
    | (rintro ps ⟨_, _, _, _, _, _, _, rfl, _⟩; rfl)
    | (rintro ps ⟨_, _, _, _, _, _, _, _, _, rfl, _⟩; rfl)
    | (rintro ps rfl; rfl)
theorem nomore_kind {u : U} {ts : List Nat} (h : ∀ t, t < 26 → t ∉ ts → kinds.getD t 0 ≠ u.kind) : ∀ (t : Nat) (T : ObjT U) (ps : List (EV U)), objs[t]? = some T → t ∉ ts → ps.length = T.nv → T.ok ps → some (EV.u u) ≠ some (EV.u (T.obj ps)) := by
  intro t T ps ht hn _ hok e
  injection e with e; injection e with e
  have hk := kind_of t T ht ps hok
  rw [← e] at hk
  exact h t (List.getElem?_eq_some_iff.1 ht).1 hn hk.symm
theorem mixed : Try.prog.follows .mixedOrders = true := by kernel_rfl
def cx (P : Program) (cts : List (Ctr U)) : Cx U := { P := P, cts := cts, objs := objs, loops := [], hints := [] }
end Go.Proofs.Ytjohihkbampbgaa
