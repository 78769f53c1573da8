/- The forms of the objects of this seat. -/
import Derived.Test.YtbmbiiiacajolaaGreatProg
import Derived.Test.YtbmbiiiacajolaaGreatU
namespace Go.Proofs.YtbmbiiiacajolaaGreat
set_option linter.unusedVariables false
set_option linter.unusedSimpArgs false
set_option linter.unusedSectionVars false
open Go

def memT : ObjT U := { nv := 8, hp := [.cells [.ptr 1 0, .int .i64 (.var 1), .int .i64 (.var 2), .int .i64 (.var 3), .int .u64 (.var 4), .int .u64 (.var 5), .bool (.var 6), .int .i64 (.var 7)] 116, .row .u64 151 0], isNil := false, ok := memOk, obj := memObj }
def memNilT : ObjT U := { nv := 0, hp := [], isNil := true, ok := fun ps => ps = [], obj := fun _ => .memNil }
def memZeroT : ObjT U := { nv := 0, hp := [.cells [.nilp, .int .i64 (.lit 0), .int .i64 (.lit 0), .int .i64 (.lit 0), .int .u64 (.lit 0), .int .u64 (.lit 0), .bool (.lit false), .int .i64 (.lit 0)] 116], isNil := false, ok := fun ps => ps = [], obj := fun _ => .memZero }
def rmemT : ObjT U := { nv := 8, hp := [.cells [.slice 1 (.var 1) (.var 1), .int .i64 (.var 2), .int .i64 (.var 3), .int .u64 (.var 4), .int .u64 (.var 5), .bool (.var 6), .int .i64 (.var 7)] 118, .row .u64 43 0], isNil := false, ok := rmemOk, obj := rmemObj }
def rmemNilT : ObjT U := { nv := 0, hp := [], isNil := true, ok := fun ps => ps = [], obj := fun _ => .rmemNil }
def find10 : ObjT U := { nv := 23, hp := [.cells [.int .i64 (.var 0), .int .i64 (.var 1), .int .i64 (.lit 1), .int .i64 (.var 2), .int .i64 (.var 3), .int .i64 (.var 4), .int .i64 (.var 5), .int .i64 (.var 6), .int .i64 (.var 7), .int .i64 (.var 8), .int .i64 (.var 9), .int .i64 (.var 10), .int .i64 (.var 11), .int .u64 (.var 12), .int .i64 (.var 13), .int .i64 (.lit 0), .int .i64 (.var 14), .int .u64 (.var 15), .int .u64 (.var 16), .int .u64 (.var 17), .slice 1 (.lit 1) (.lit 1), .int .u64 (.var 18), .bool (.lit true), .int .i64 (.lit 0)] 94, .cells [.int .i64 (.var 19), .int .i64 (.var 20), .int .u64 (.var 21), .int .u64 (.var 22)] 91], isNil := false, ok := find10Ok, obj := find10Obj }
def find20 : ObjT U := { nv := 27, hp := [.cells [.int .i64 (.var 0), .int .i64 (.var 1), .int .i64 (.lit 2), .int .i64 (.var 2), .int .i64 (.var 3), .int .i64 (.var 4), .int .i64 (.var 5), .int .i64 (.var 6), .int .i64 (.var 7), .int .i64 (.var 8), .int .i64 (.var 9), .int .i64 (.var 10), .int .i64 (.var 11), .int .u64 (.var 12), .int .i64 (.var 13), .int .i64 (.lit 0), .int .i64 (.var 14), .int .u64 (.var 15), .int .u64 (.var 16), .int .u64 (.var 17), .slice 1 (.lit 2) (.lit 2), .int .u64 (.var 18), .bool (.lit true), .int .i64 (.lit 0)] 94, .cells [.int .i64 (.var 19), .int .i64 (.var 20), .int .u64 (.var 21), .int .u64 (.var 22), .int .i64 (.var 23), .int .i64 (.var 24), .int .u64 (.var 25), .int .u64 (.var 26)] 91], isNil := false, ok := find20Ok, obj := find20Obj }
def find21 : ObjT U := { nv := 27, hp := [.cells [.int .i64 (.var 0), .int .i64 (.var 1), .int .i64 (.lit 2), .int .i64 (.var 2), .int .i64 (.var 3), .int .i64 (.var 4), .int .i64 (.var 5), .int .i64 (.var 6), .int .i64 (.var 7), .int .i64 (.var 8), .int .i64 (.var 9), .int .i64 (.var 10), .int .i64 (.var 11), .int .u64 (.var 12), .int .i64 (.var 13), .int .i64 (.lit 1), .int .i64 (.var 14), .int .u64 (.var 15), .int .u64 (.var 16), .int .u64 (.var 17), .slice 1 (.lit 2) (.lit 2), .int .u64 (.var 18), .bool (.lit true), .int .i64 (.lit 0)] 94, .cells [.int .i64 (.var 19), .int .i64 (.var 20), .int .u64 (.var 21), .int .u64 (.var 22), .int .i64 (.var 23), .int .i64 (.var 24), .int .u64 (.var 25), .int .u64 (.var 26)] 91], isNil := false, ok := find21Ok, obj := find21Obj }
def find30 : ObjT U := { nv := 31, hp := [.cells [.int .i64 (.var 0), .int .i64 (.var 1), .int .i64 (.lit 3), .int .i64 (.var 2), .int .i64 (.var 3), .int .i64 (.var 4), .int .i64 (.var 5), .int .i64 (.var 6), .int .i64 (.var 7), .int .i64 (.var 8), .int .i64 (.var 9), .int .i64 (.var 10), .int .i64 (.var 11), .int .u64 (.var 12), .int .i64 (.var 13), .int .i64 (.lit 0), .int .i64 (.var 14), .int .u64 (.var 15), .int .u64 (.var 16), .int .u64 (.var 17), .slice 1 (.lit 3) (.lit 3), .int .u64 (.var 18), .bool (.lit true), .int .i64 (.lit 0)] 94, .cells [.int .i64 (.var 19), .int .i64 (.var 20), .int .u64 (.var 21), .int .u64 (.var 22), .int .i64 (.var 23), .int .i64 (.var 24), .int .u64 (.var 25), .int .u64 (.var 26), .int .i64 (.var 27), .int .i64 (.var 28), .int .u64 (.var 29), .int .u64 (.var 30)] 91], isNil := false, ok := find30Ok, obj := find30Obj }
def find31 : ObjT U := { nv := 31, hp := [.cells [.int .i64 (.var 0), .int .i64 (.var 1), .int .i64 (.lit 3), .int .i64 (.var 2), .int .i64 (.var 3), .int .i64 (.var 4), .int .i64 (.var 5), .int .i64 (.var 6), .int .i64 (.var 7), .int .i64 (.var 8), .int .i64 (.var 9), .int .i64 (.var 10), .int .i64 (.var 11), .int .u64 (.var 12), .int .i64 (.var 13), .int .i64 (.lit 1), .int .i64 (.var 14), .int .u64 (.var 15), .int .u64 (.var 16), .int .u64 (.var 17), .slice 1 (.lit 3) (.lit 3), .int .u64 (.var 18), .bool (.lit true), .int .i64 (.lit 0)] 94, .cells [.int .i64 (.var 19), .int .i64 (.var 20), .int .u64 (.var 21), .int .u64 (.var 22), .int .i64 (.var 23), .int .i64 (.var 24), .int .u64 (.var 25), .int .u64 (.var 26), .int .i64 (.var 27), .int .i64 (.var 28), .int .u64 (.var 29), .int .u64 (.var 30)] 91], isNil := false, ok := find31Ok, obj := find31Obj }
def find32 : ObjT U := { nv := 31, hp := [.cells [.int .i64 (.var 0), .int .i64 (.var 1), .int .i64 (.lit 3), .int .i64 (.var 2), .int .i64 (.var 3), .int .i64 (.var 4), .int .i64 (.var 5), .int .i64 (.var 6), .int .i64 (.var 7), .int .i64 (.var 8), .int .i64 (.var 9), .int .i64 (.var 10), .int .i64 (.var 11), .int .u64 (.var 12), .int .i64 (.var 13), .int .i64 (.lit 2), .int .i64 (.var 14), .int .u64 (.var 15), .int .u64 (.var 16), .int .u64 (.var 17), .slice 1 (.lit 3) (.lit 3), .int .u64 (.var 18), .bool (.lit true), .int .i64 (.lit 0)] 94, .cells [.int .i64 (.var 19), .int .i64 (.var 20), .int .u64 (.var 21), .int .u64 (.var 22), .int .i64 (.var 23), .int .i64 (.var 24), .int .u64 (.var 25), .int .u64 (.var 26), .int .i64 (.var 27), .int .i64 (.var 28), .int .u64 (.var 29), .int .u64 (.var 30)] 91], isNil := false, ok := find32Ok, obj := find32Obj }
def find40 : ObjT U := { nv := 35, hp := [.cells [.int .i64 (.var 0), .int .i64 (.var 1), .int .i64 (.lit 4), .int .i64 (.var 2), .int .i64 (.var 3), .int .i64 (.var 4), .int .i64 (.var 5), .int .i64 (.var 6), .int .i64 (.var 7), .int .i64 (.var 8), .int .i64 (.var 9), .int .i64 (.var 10), .int .i64 (.var 11), .int .u64 (.var 12), .int .i64 (.var 13), .int .i64 (.lit 0), .int .i64 (.var 14), .int .u64 (.var 15), .int .u64 (.var 16), .int .u64 (.var 17), .slice 1 (.lit 4) (.lit 4), .int .u64 (.var 18), .bool (.lit true), .int .i64 (.lit 0)] 94, .cells [.int .i64 (.var 19), .int .i64 (.var 20), .int .u64 (.var 21), .int .u64 (.var 22), .int .i64 (.var 23), .int .i64 (.var 24), .int .u64 (.var 25), .int .u64 (.var 26), .int .i64 (.var 27), .int .i64 (.var 28), .int .u64 (.var 29), .int .u64 (.var 30), .int .i64 (.var 31), .int .i64 (.var 32), .int .u64 (.var 33), .int .u64 (.var 34)] 91], isNil := false, ok := find40Ok, obj := find40Obj }
def find41 : ObjT U := { nv := 35, hp := [.cells [.int .i64 (.var 0), .int .i64 (.var 1), .int .i64 (.lit 4), .int .i64 (.var 2), .int .i64 (.var 3), .int .i64 (.var 4), .int .i64 (.var 5), .int .i64 (.var 6), .int .i64 (.var 7), .int .i64 (.var 8), .int .i64 (.var 9), .int .i64 (.var 10), .int .i64 (.var 11), .int .u64 (.var 12), .int .i64 (.var 13), .int .i64 (.lit 1), .int .i64 (.var 14), .int .u64 (.var 15), .int .u64 (.var 16), .int .u64 (.var 17), .slice 1 (.lit 4) (.lit 4), .int .u64 (.var 18), .bool (.lit true), .int .i64 (.lit 0)] 94, .cells [.int .i64 (.var 19), .int .i64 (.var 20), .int .u64 (.var 21), .int .u64 (.var 22), .int .i64 (.var 23), .int .i64 (.var 24), .int .u64 (.var 25), .int .u64 (.var 26), .int .i64 (.var 27), .int .i64 (.var 28), .int .u64 (.var 29), .int .u64 (.var 30), .int .i64 (.var 31), .int .i64 (.var 32), .int .u64 (.var 33), .int .u64 (.var 34)] 91], isNil := false, ok := find41Ok, obj := find41Obj }
def find42 : ObjT U := { nv := 35, hp := [.cells [.int .i64 (.var 0), .int .i64 (.var 1), .int .i64 (.lit 4), .int .i64 (.var 2), .int .i64 (.var 3), .int .i64 (.var 4), .int .i64 (.var 5), .int .i64 (.var 6), .int .i64 (.var 7), .int .i64 (.var 8), .int .i64 (.var 9), .int .i64 (.var 10), .int .i64 (.var 11), .int .u64 (.var 12), .int .i64 (.var 13), .int .i64 (.lit 2), .int .i64 (.var 14), .int .u64 (.var 15), .int .u64 (.var 16), .int .u64 (.var 17), .slice 1 (.lit 4) (.lit 4), .int .u64 (.var 18), .bool (.lit true), .int .i64 (.lit 0)] 94, .cells [.int .i64 (.var 19), .int .i64 (.var 20), .int .u64 (.var 21), .int .u64 (.var 22), .int .i64 (.var 23), .int .i64 (.var 24), .int .u64 (.var 25), .int .u64 (.var 26), .int .i64 (.var 27), .int .i64 (.var 28), .int .u64 (.var 29), .int .u64 (.var 30), .int .i64 (.var 31), .int .i64 (.var 32), .int .u64 (.var 33), .int .u64 (.var 34)] 91], isNil := false, ok := find42Ok, obj := find42Obj }
def find43 : ObjT U := { nv := 35, hp := [.cells [.int .i64 (.var 0), .int .i64 (.var 1), .int .i64 (.lit 4), .int .i64 (.var 2), .int .i64 (.var 3), .int .i64 (.var 4), .int .i64 (.var 5), .int .i64 (.var 6), .int .i64 (.var 7), .int .i64 (.var 8), .int .i64 (.var 9), .int .i64 (.var 10), .int .i64 (.var 11), .int .u64 (.var 12), .int .i64 (.var 13), .int .i64 (.lit 3), .int .i64 (.var 14), .int .u64 (.var 15), .int .u64 (.var 16), .int .u64 (.var 17), .slice 1 (.lit 4) (.lit 4), .int .u64 (.var 18), .bool (.lit true), .int .i64 (.lit 0)] 94, .cells [.int .i64 (.var 19), .int .i64 (.var 20), .int .u64 (.var 21), .int .u64 (.var 22), .int .i64 (.var 23), .int .i64 (.var 24), .int .u64 (.var 25), .int .u64 (.var 26), .int .i64 (.var 27), .int .i64 (.var 28), .int .u64 (.var 29), .int .u64 (.var 30), .int .i64 (.var 31), .int .i64 (.var 32), .int .u64 (.var 33), .int .u64 (.var 34)] 91], isNil := false, ok := find43Ok, obj := find43Obj }
def findNilT : ObjT U := { nv := 0, hp := [], isNil := true, ok := fun ps => ps = [], obj := fun _ => .findNil }
def rfindT : ObjT U := { nv := 24, hp := [.cells [.int .i64 (.var 0), .int .i64 (.var 1), .int .i64 (.var 2), .int .i64 (.var 3), .int .i64 (.var 4), .int .i64 (.var 5), .int .i64 (.var 6), .int .i64 (.var 7), .int .i64 (.var 8), .int .i64 (.var 9), .int .i64 (.var 10), .int .i64 (.var 11), .int .i64 (.var 12), .int .u64 (.var 13), .int .i64 (.var 14), .int .i64 (.var 15), .int .i64 (.var 16), .int .u64 (.var 17), .int .u64 (.var 18), .int .u64 (.var 19), .slice 1 (.var 2) (.var 2), .slice 2 (.var 2) (.var 2), .slice 3 (.var 2) (.var 2), .int .u64 (.var 20), .int .i64 (.lit 0)] 97, .row .i64 3 21, .row .u64 43 22, .row .u64 43 23], isNil := false, ok := rfindOk, obj := rfindObj }
def rfindNilT : ObjT U := { nv := 0, hp := [], isNil := true, ok := fun ps => ps = [], obj := fun _ => .rfindNil }
def objs : List (ObjT U) := [memT, memNilT, memZeroT, rmemT, rmemNilT, find10, find20, find21, find30, find31, find32, find40, find41, find42, find43, findNilT, rfindT, rfindNilT]

theorem objs_all {p : Nat → ObjT U → Prop} (h0 : p 0 memT) (h1 : p 1 memNilT) (h2 : p 2 memZeroT) (h3 : p 3 rmemT) (h4 : p 4 rmemNilT) (h5 : p 5 find10) (h6 : p 6 find20) (h7 : p 7 find21) (h8 : p 8 find30) (h9 : p 9 find31) (h10 : p 10 find32) (h11 : p 11 find40) (h12 : p 12 find41) (h13 : p 13 find42) (h14 : p 14 find43) (h15 : p 15 findNilT) (h16 : p 16 rfindT) (h17 : p 17 rfindNilT) : ∀ (t : Nat) (T : ObjT U), objs[t]? = some T → p t T := by
  intro t T h
  match t, h with
  | 0, h => cases h; exact h0
  | 1, h => cases h; exact h1
  | 2, h => cases h; exact h2
  | 3, h => cases h; exact h3
  | 4, h => cases h; exact h4
  | 5, h => cases h; exact h5
  | 6, h => cases h; exact h6
  | 7, h => cases h; exact h7
  | 8, h => cases h; exact h8
  | 9, h => cases h; exact h9
  | 10, h => cases h; exact h10
  | 11, h => cases h; exact h11
  | 12, h => cases h; exact h12
  | 13, h => cases h; exact h13
  | 14, h => cases h; exact h14
  | 15, h => cases h; exact h15
  | 16, h => cases h; exact h16
  | 17, h => cases h; exact h17
  | t + 18, h => cases h
theorem objsOk : ObjsOk objs := by
  refine ⟨objs_all ?_ ?_ ?_ ?_ ?_ ?_ ?_ ?_ ?_ ?_ ?_ ?_ ?_ ?_ ?_ ?_ ?_ ?_, objs_all ?_ ?_ ?_ ?_ ?_ ?_ ?_ ?_ ?_ ?_ ?_ ?_ ?_ ?_ ?_ ?_ ?_ ?_, objs_all ?_ ?_ ?_ ?_ ?_ ?_ ?_ ?_ ?_ ?_ ?_ ?_ ?_ ?_ ?_ ?_ ?_ ?_, objs_all ?_ ?_ ?_ ?_ ?_ ?_ ?_ ?_ ?_ ?_ ?_ ?_ ?_ ?_ ?_ ?_ ?_ ?_⟩
  all_goals first
    | (rintro ps ⟨l, s, k, a, o, n, h, N, rfl, _⟩; rfl)
    | (rintro ps ⟨_, _, _, _, _, _, _, _, _, _, _, _, _, _, _, _, _, _, _, _, _, _, _, rfl, _⟩; rfl)
    | (rintro ps ⟨_, _, _, _, _, _, _, _, _, _, _, _, _, _, _, _, _, _, _, _, _, _, _, _, _, _, _, rfl, _⟩; rfl)
    | (rintro ps ⟨_, _, _, _, _, _, _, _, _, _, _, _, _, _, _, _, _, _, _, _, _, _, _, _, _, _, _, _, _, _, _, rfl, _⟩; rfl)
    | (rintro ps ⟨_, _, _, _, _, _, _, _, _, _, _, _, _, _, _, _, _, _, _, _, _, _, _, _, _, _, _, _, _, _, _, _, _, _, _, rfl, _⟩; rfl)
    | (rintro ps ⟨_, _, _, _, _, _, _, _, _, _, _, _, _, _, _, _, _, _, _, _, _, _, _, _, rfl, _⟩; rfl)
    | (rintro ps rfl; rfl)
    | (intro h; cases h; done)
    | (intro _; rfl)
    | (intro _; exact ⟨_, _, rfl⟩)
    | (intro n h hh; match n, hh with | 0, hh => cases hh; rfl | 1, hh => cases hh; rfl | n + 2, hh => cases hh)
    | (intro n h hh; match n, hh with | 0, hh => cases hh; rfl | n + 1, hh => cases hh)
    | (intro n h hh; match n, hh with | 0, hh => cases hh; rfl | 1, hh => cases hh; rfl | 2, hh => cases hh; rfl | 3, hh => cases hh; rfl | n + 4, hh => cases hh)
    | (intro n h hh; cases hh)
def kinds : List Nat := [1, 2, 3, 4, 5, 6, 6, 6, 6, 6, 6, 6, 6, 6, 6, 7, 8, 9]
/-- which kind of object a form has -/
theorem kind_of : ∀ (t : Nat) (T : ObjT U), objs[t]? = some T → ∀ ps, T.ok ps → (T.obj ps).kind = kinds.getD t 0 := by
  refine objs_all ?_ ?_ ?_ ?_ ?_ ?_ ?_ ?_ ?_ ?_ ?_ ?_ ?_ ?_ ?_ ?_ ?_ ?_
  all_goals first
    | (rintro ps ⟨l, s, k, a, o, n, h, N, rfl, _⟩; rfl)
    | (rintro ps ⟨_, _, _, _, _, _, _, _, _, _, _, _, _, _, _, _, _, _, _, _, _, _, _, rfl, _⟩; rfl)
    | (rintro ps ⟨_, _, _, _, _, _, _, _, _, _, _, _, _, _, _, _, _, _, _, _, _, _, _, _, _, _, _, rfl, _⟩; rfl)
    | (rintro ps ⟨_, _, _, _, _, _, _, _, _, _, _, _, _, _, _, _, _, _, _, _, _, _, _, _, _, _, _, _, _, _, _, rfl, _⟩; rfl)
    | (rintro ps ⟨_, _, _, _, _, _, _, _, _, _, _, _, _, _, _, _, _, _, _, _, _, _, _, _, _, _, _, _, _, _, _, _, _, _, _, rfl, _⟩; rfl)
    | (rintro ps ⟨_, _, _, _, _, _, _, _, _, _, _, _, _, _, _, _, _, _, _, _, _, _, _, _, rfl, _⟩; rfl)
    | (rintro ps rfl; rfl)
theorem nomore_kind {u : U} {ts : List Nat} (h : ∀ t, t < 18 → t ∉ ts → kinds.getD t 0 ≠ u.kind) : ∀ (t : Nat) (T : ObjT U) (ps : List (EV U)), objs[t]? = some T → t ∉ ts → ps.length = T.nv → T.ok ps → some (EV.u u) ≠ some (EV.u (T.obj ps)) := by
  intro t T ps ht hn _ hok e
  injection e with e; injection e with e
  have hk := kind_of t T ht ps hok
  rw [← e] at hk
  exact h t (List.getElem?_eq_some_iff.1 ht).1 hn hk.symm
theorem mixed : Tryz.prog.follows .mixedOrders = true := by kernel_rfl
def cx (P : Program) (cts : List (Ctr U)) : Cx U := { P := P, cts := cts, objs := objs, loops := [], hints := [] }
end Go.Proofs.YtbmbiiiacajolaaGreat
