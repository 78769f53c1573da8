/- The forms of the objects of this seat. -/
import Derived.Test.YtbmbiiiacajolaaGreatProg
import Derived.Test.YtbmbiiiacajolaaGreatU
namespace Go.Proofs.YtbmbiiiacajolaaGreat
set_option linter.unusedVariables false
set_option linter.unusedSimpArgs false
set_option linter.unusedSectionVars false
open Go

def memT : ObjT U := { nv := 8, hp := [.cells [.ptr 1 0, .int .i64 (.var 1), .int .i64 (.var 2), .int .i64 (.var 3), .int .u64 (.var 4), .int .u64 (.var 5), .bool (.var 6), .int .i64 (.var 7)] 116, .row .u64 151 0], isNil := false, ok := memOk, obj := memObj }
def memNilT : ObjT U := { nv := 0, hp := [], isNil := true, ok := fun ps => ps = [], obj := fun _ => .memNil }
def memZeroT : ObjT U := { nv := 0, hp := [.cells [.nilp, .int .i64 (.lit 0), .int .i64 (.lit 0), .int .i64 (.lit 0), .int .u64 (.lit 0), .int .u64 (.lit 0), .bool (.lit false), .int .i64 (.lit 0)] 116], isNil := false, ok := fun ps => ps = [], obj := fun _ => .memZero }
def rmemT : ObjT U := { nv := 8, hp := [.cells [.slice 1 (.var 1) (.var 1), .int .i64 (.var 2), .int .i64 (.var 3), .int .u64 (.var 4), .int .u64 (.var 5), .bool (.var 6), .int .i64 (.var 7)] 118, .row .u64 43 0], isNil := false, ok := rmemOk, obj := rmemObj }
def rmemNilT : ObjT U := { nv := 0, hp := [], isNil := true, ok := fun ps => ps = [], obj := fun _ => .rmemNil }
def layA : ObjT U := { nv := 19, hp := [.cells [.bool (.lit true), .int .u64 (.var 13), .func (.func 98) [] [.ptr 1 0, .ptr 2 0, .ptr 3 0, .ptr 4 0], .func (.func 98) [] [.ptr 1 0, .ptr 2 0, .ptr 5 0, .ptr 6 0], .func (.func 98) [] [.ptr 1 0, .ptr 2 0, .ptr 7 0, .ptr 8 0], .func (.func 98) [] [.ptr 1 0, .ptr 2 0, .ptr 9 0, .ptr 10 0], .int .i64 (.var 18), .int .i64 (.lit 0)] 141, .cells [.int .i64 (.var 0), .int .i64 (.var 1), .int .i64 (.var 2), .int .i64 (.var 3), .int .i64 (.var 4), .int .i64 (.var 5), .int .i64 (.var 6), .int .i64 (.var 7), .int .i64 (.var 8), .int .i64 (.var 9), .int .i64 (.var 10), .int .i64 (.var 11), .int .i64 (.var 12)] 31, .cells [.int .i64 (.var 14)] 3, .cells [.int .i64 (.lit 0)] 3, .cells [.int .u64 (.var 15)] 43, .cells [.int .i64 (.lit 1)] 3, .cells [.int .u64 (.var 16)] 43, .cells [.int .i64 (.lit 2)] 3, .cells [.int .u64 (.var 17)] 43, .cells [.int .i64 (.lit 3)] 3, .cells [.int .u64 (.lit 2)] 43], isNil := false, ok := layAOk, obj := layAObj }
def layR : ObjT U := { nv := 2, hp := [.cells [.bool (.lit true), .int .u64 (.var 0), .nilf, .nilf, .nilf, .nilf, .int .i64 (.lit 4), .int .i64 (.var 1)] 141], isNil := false, ok := layROk, obj := layRObj }
def layNilT : ObjT U := { nv := 0, hp := [], isNil := true, ok := fun ps => ps = [], obj := fun _ => .layNil }
def rlay0 : ObjT U := { nv := 19, hp := [.cells [.int .i64 (.var 0), .int .i64 (.var 1), .int .i64 (.var 2), .int .i64 (.var 3), .int .i64 (.var 4), .int .i64 (.var 5), .int .i64 (.var 6), .int .i64 (.var 7), .int .i64 (.var 8), .int .i64 (.var 9), .int .i64 (.var 10), .int .i64 (.var 11), .int .i64 (.var 12), .int .u64 (.var 13), .int .u64 (.var 14), .int .u64 (.var 15), .int .i64 (.var 16), .int .i64 (.var 17), .int .i64 (.var 18), .int .i64 (.lit 0), .int .i64 (.lit 0)] 146], isNil := false, ok := rlay0Ok, obj := rlay0Obj }
def rlay1 : ObjT U := { nv := 19, hp := [.cells [.int .i64 (.var 0), .int .i64 (.var 1), .int .i64 (.var 2), .int .i64 (.var 3), .int .i64 (.var 4), .int .i64 (.var 5), .int .i64 (.var 6), .int .i64 (.var 7), .int .i64 (.var 8), .int .i64 (.var 9), .int .i64 (.var 10), .int .i64 (.var 11), .int .i64 (.var 12), .int .u64 (.var 13), .int .u64 (.var 14), .int .u64 (.var 15), .int .i64 (.var 16), .int .i64 (.var 17), .int .i64 (.var 18), .int .i64 (.lit 1), .int .i64 (.lit 0)] 146], isNil := false, ok := rlay1Ok, obj := rlay1Obj }
def rlay2 : ObjT U := { nv := 19, hp := [.cells [.int .i64 (.var 0), .int .i64 (.var 1), .int .i64 (.var 2), .int .i64 (.var 3), .int .i64 (.var 4), .int .i64 (.var 5), .int .i64 (.var 6), .int .i64 (.var 7), .int .i64 (.var 8), .int .i64 (.var 9), .int .i64 (.var 10), .int .i64 (.var 11), .int .i64 (.var 12), .int .u64 (.var 13), .int .u64 (.var 14), .int .u64 (.var 15), .int .i64 (.var 16), .int .i64 (.var 17), .int .i64 (.var 18), .int .i64 (.lit 2), .int .i64 (.lit 0)] 146], isNil := false, ok := rlay2Ok, obj := rlay2Obj }
def rlay3 : ObjT U := { nv := 19, hp := [.cells [.int .i64 (.var 0), .int .i64 (.var 1), .int .i64 (.var 2), .int .i64 (.var 3), .int .i64 (.var 4), .int .i64 (.var 5), .int .i64 (.var 6), .int .i64 (.var 7), .int .i64 (.var 8), .int .i64 (.var 9), .int .i64 (.var 10), .int .i64 (.var 11), .int .i64 (.var 12), .int .u64 (.var 13), .int .u64 (.var 14), .int .u64 (.var 15), .int .i64 (.var 16), .int .i64 (.var 17), .int .i64 (.var 18), .int .i64 (.lit 3), .int .i64 (.lit 0)] 146], isNil := false, ok := rlay3Ok, obj := rlay3Obj }
def rlay9 : ObjT U := { nv := 20, hp := [.cells [.int .i64 (.var 0), .int .i64 (.var 1), .int .i64 (.var 2), .int .i64 (.var 3), .int .i64 (.var 4), .int .i64 (.var 5), .int .i64 (.var 6), .int .i64 (.var 7), .int .i64 (.var 8), .int .i64 (.var 9), .int .i64 (.var 10), .int .i64 (.var 11), .int .i64 (.var 12), .int .u64 (.var 13), .int .u64 (.var 14), .int .u64 (.var 15), .int .i64 (.var 16), .int .i64 (.var 17), .int .i64 (.var 18), .int .i64 (.lit 9), .int .i64 (.var 19)] 146], isNil := false, ok := rlay9Ok, obj := rlay9Obj }
def rlayNilT : ObjT U := { nv := 0, hp := [], isNil := true, ok := fun ps => ps = [], obj := fun _ => .rlayNil }
def objs : List (ObjT U) := [memT, memNilT, memZeroT, rmemT, rmemNilT, layA, layR, layNilT, rlay0, rlay1, rlay2, rlay3, rlay9, rlayNilT]

theorem objs_all {p : Nat → ObjT U → Prop} (h0 : p 0 memT) (h1 : p 1 memNilT) (h2 : p 2 memZeroT) (h3 : p 3 rmemT) (h4 : p 4 rmemNilT) (h5 : p 5 layA) (h6 : p 6 layR) (h7 : p 7 layNilT) (h8 : p 8 rlay0) (h9 : p 9 rlay1) (h10 : p 10 rlay2) (h11 : p 11 rlay3) (h12 : p 12 rlay9) (h13 : p 13 rlayNilT) : ∀ (t : Nat) (T : ObjT U), objs[t]? = some T → p t T := by
  intro t T h
  match t, h with
  | 0, h => cases h; exact h0
  | 1, h => cases h; exact h1
  | 2, h => cases h; exact h2
  | 3, h => cases h; exact h3
  | 4, h => cases h; exact h4
  | 5, h => cases h; exact h5
  | 6, h => cases h; exact h6
  | 7, h => cases h; exact h7
  | 8, h => cases h; exact h8
  | 9, h => cases h; exact h9
  | 10, h => cases h; exact h10
  | 11, h => cases h; exact h11
  | 12, h => cases h; exact h12
  | 13, h => cases h; exact h13
  | t + 14, h => cases h
theorem objsOk : ObjsOk objs := by
  refine ⟨objs_all ?_ ?_ ?_ ?_ ?_ ?_ ?_ ?_ ?_ ?_ ?_ ?_ ?_ ?_, objs_all ?_ ?_ ?_ ?_ ?_ ?_ ?_ ?_ ?_ ?_ ?_ ?_ ?_ ?_, objs_all ?_ ?_ ?_ ?_ ?_ ?_ ?_ ?_ ?_ ?_ ?_ ?_ ?_ ?_, objs_all ?_ ?_ ?_ ?_ ?_ ?_ ?_ ?_ ?_ ?_ ?_ ?_ ?_ ?_⟩
  all_goals first
    | (rintro ps ⟨l, s, k, a, o, n, h, N, rfl, _⟩; rfl)
    | (rintro ps ⟨_, _, _, _, _, _, _, _, _, _, _, _, _, _, _, _, _, _, _, rfl, _⟩; rfl)
    | (rintro ps ⟨_, _, rfl, _⟩; rfl)
    | (rintro ps ⟨_, _, _, _, _, _, _, _, _, _, _, _, _, _, _, _, _, _, _, e, rfl, _⟩; by_cases h : e = 0 <;> simp [rlay9, rlay9Obj, h] <;> rfl)
    | (rintro ps rfl; rfl)
    | (intro h; cases h; done)
    | (intro _; rfl)
    | (intro _; exact ⟨_, _, rfl⟩)
    | (intro n h hh; match n, hh with | 0, hh => cases hh; rfl | 1, hh => cases hh; rfl | n + 2, hh => cases hh)
    | (intro n h hh; match n, hh with | 0, hh => cases hh; rfl | n + 1, hh => cases hh)
    | (intro n h hh; match n, hh with | 0, hh => cases hh; rfl | 1, hh => cases hh; rfl | 2, hh => cases hh; rfl | 3, hh => cases hh; rfl | 4, hh => cases hh; rfl | 5, hh => cases hh; rfl | 6, hh => cases hh; rfl | 7, hh => cases hh; rfl | 8, hh => cases hh; rfl | 9, hh => cases hh; rfl | 10, hh => cases hh; rfl | n + 11, hh => cases hh)
    | (intro n h hh; cases hh)
def kinds : List Nat := [1, 2, 3, 4, 5, 6, 6, 7, 8, 8, 8, 8, 8, 9]
/-- which kind of object a form has -/
theorem kind_of : ∀ (t : Nat) (T : ObjT U), objs[t]? = some T → ∀ ps, T.ok ps → (T.obj ps).kind = kinds.getD t 0 := by
  refine objs_all ?_ ?_ ?_ ?_ ?_ ?_ ?_ ?_ ?_ ?_ ?_ ?_ ?_ ?_
  all_goals first
    | (rintro ps ⟨l, s, k, a, o, n, h, N, rfl, _⟩; rfl)
    | (rintro ps ⟨_, _, _, _, _, _, _, _, _, _, _, _, _, _, _, _, _, _, _, rfl, _⟩; rfl)
    | (rintro ps ⟨_, _, rfl, _⟩; rfl)
    | (rintro ps ⟨_, _, _, _, _, _, _, _, _, _, _, _, _, _, _, _, _, _, _, e, rfl, _⟩; by_cases h : e = 0 <;> simp [rlay9, rlay9Obj, h] <;> rfl)
    | (rintro ps rfl; rfl)
theorem nomore_kind {u : U} {ts : List Nat} (h : ∀ t, t < 14 → t ∉ ts → kinds.getD t 0 ≠ u.kind) : ∀ (t : Nat) (T : ObjT U) (ps : List (EV U)), objs[t]? = some T → t ∉ ts → ps.length = T.nv → T.ok ps → some (EV.u u) ≠ some (EV.u (T.obj ps)) := by
  intro t T ps ht hn _ hok e
  injection e with e; injection e with e
  have hk := kind_of t T ht ps hok
  rw [← e] at hk
  exact h t (List.getElem?_eq_some_iff.1 ht).1 hn hk.symm
theorem mixed : Tryz.prog.follows .mixedOrders = true := by kernel_rfl
def cx (P : Program) (cts : List (Ctr U)) : Cx U := { P := P, cts := cts, objs := objs, loops := [], hints := [] }
end Go.Proofs.YtbmbiiiacajolaaGreat
