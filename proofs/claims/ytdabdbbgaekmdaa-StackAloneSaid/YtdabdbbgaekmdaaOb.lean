/- The forms of the objects of this seat. -/
import Derived.Test.YtdabdbbgaekmdaaProg
import Derived.Test.YtdabdbbgaekmdaaU
namespace Go.Proofs.Ytdabdbbgaekmdaa
set_option linter.unusedVariables false
set_option linter.unusedSimpArgs false
set_option linter.unusedSectionVars false
open Go

def memT : ObjT U := { nv := 8, hp := [.cells [.ptr 1 0, .int .i64 (.var 1), .int .i64 (.var 2), .int .i64 (.var 3), .int .u64 (.var 4), .int .u64 (.var 5), .bool (.var 6), .int .i64 (.var 7)] 150, .row .u64 148 0], isNil := false, ok := memOk, obj := memObj }
def memNilT : ObjT U := { nv := 0, hp := [], isNil := true, ok := fun ps => ps = [], obj := fun _ => .memNil }
def memZeroT : ObjT U := { nv := 0, hp := [.cells [.nilp, .int .i64 (.lit 0), .int .i64 (.lit 0), .int .i64 (.lit 0), .int .u64 (.lit 0), .int .u64 (.lit 0), .bool (.lit false), .int .i64 (.lit 0)] 150], isNil := false, ok := fun ps => ps = [], obj := fun _ => .memZero }
def rmemT : ObjT U := { nv := 8, hp := [.cells [.slice 1 (.var 1) (.var 1), .int .i64 (.var 2), .int .i64 (.var 3), .int .u64 (.var 4), .int .u64 (.var 5), .bool (.var 6), .int .i64 (.var 7)] 82, .row .u64 30 0], isNil := false, ok := rmemOk, obj := rmemObj }
def rmemNilT : ObjT U := { nv := 0, hp := [], isNil := true, ok := fun ps => ps = [], obj := fun _ => .rmemNil }
def popT1 : ObjT U := { nv := 7, hp := [.cells [.int .i64 (.var 0), .int .i64 (.var 1), .int .i64 (.var 2), .int .u64 (.var 3), .int .i64 (.var 4), .int .i64 (.var 5), .bool (.lit true), .bool (.lit false), .int .i64 (.var 6), .func (.func 80) [] []] 35], isNil := false, ok := popT1Ok, obj := popT1Obj }
def popT2 : ObjT U := { nv := 7, hp := [.cells [.int .i64 (.var 0), .int .i64 (.var 1), .int .i64 (.var 2), .int .u64 (.var 3), .int .i64 (.var 4), .int .i64 (.var 5), .bool (.lit true), .bool (.lit false), .int .i64 (.var 6), .func (.func 121) [] []] 35], isNil := false, ok := popT2Ok, obj := popT2Obj }
def popT3 : ObjT U := { nv := 7, hp := [.cells [.int .i64 (.var 0), .int .i64 (.var 1), .int .i64 (.var 2), .int .u64 (.var 3), .int .i64 (.var 4), .int .i64 (.var 5), .bool (.lit true), .bool (.lit false), .int .i64 (.var 6), .func (.func 145) [] []] 35], isNil := false, ok := popT3Ok, obj := popT3Obj }
def popT9a : ObjT U := { nv := 6, hp := [.cells [.int .i64 (.var 0), .int .i64 (.var 1), .int .i64 (.var 2), .int .u64 (.var 3), .int .i64 (.var 4), .int .i64 (.var 5), .bool (.lit true), .bool (.lit true), .int .i64 (.lit 0), .func (.func 80) [] []] 35], isNil := false, ok := popT9aOk, obj := popT9aObj }
def popT9b : ObjT U := { nv := 6, hp := [.cells [.int .i64 (.var 0), .int .i64 (.var 1), .int .i64 (.var 2), .int .u64 (.var 3), .int .i64 (.var 4), .int .i64 (.var 5), .bool (.lit true), .bool (.lit true), .int .i64 (.lit 15), .func (.func 121) [] []] 35], isNil := false, ok := popT9bOk, obj := popT9bObj }
def popNilT : ObjT U := { nv := 0, hp := [], isNil := true, ok := fun ps => ps = [], obj := fun _ => .popNil }
def rpopT : ObjT U := { nv := 7, hp := [.cells [.int .i64 (.var 0), .int .i64 (.var 1), .int .i64 (.var 2), .int .i64 (.var 3), .int .u64 (.var 4), .int .i64 (.var 5), .int .i64 (.var 6)] 193], isNil := false, ok := rpopTOk, obj := rpopTObj }
def rpopNilT : ObjT U := { nv := 0, hp := [], isNil := true, ok := fun ps => ps = [], obj := fun _ => .rpopNil }
def pushT1 : ObjT U := { nv := 7, hp := [.cells [.int .i64 (.var 0), .int .i64 (.var 1), .int .i64 (.var 2), .int .u64 (.var 3), .int .i64 (.var 4), .int .i64 (.var 5), .bool (.lit true), .bool (.lit false), .int .i64 (.var 6), .func (.func 75) [] []] 40], isNil := false, ok := pushT1Ok, obj := pushT1Obj }
def pushT2 : ObjT U := { nv := 7, hp := [.cells [.int .i64 (.var 0), .int .i64 (.var 1), .int .i64 (.var 2), .int .u64 (.var 3), .int .i64 (.var 4), .int .i64 (.var 5), .bool (.lit true), .bool (.lit false), .int .i64 (.var 6), .func (.func 116) [] []] 40], isNil := false, ok := pushT2Ok, obj := pushT2Obj }
def pushT3 : ObjT U := { nv := 7, hp := [.cells [.int .i64 (.var 0), .int .i64 (.var 1), .int .i64 (.var 2), .int .u64 (.var 3), .int .i64 (.var 4), .int .i64 (.var 5), .bool (.lit true), .bool (.lit false), .int .i64 (.var 6), .func (.func 140) [] []] 40], isNil := false, ok := pushT3Ok, obj := pushT3Obj }
def pushT9 : ObjT U := { nv := 7, hp := [.cells [.int .i64 (.var 0), .int .i64 (.var 1), .int .i64 (.var 2), .int .u64 (.var 3), .int .i64 (.var 4), .int .i64 (.var 5), .bool (.lit true), .bool (.lit true), .int .i64 (.var 6), .func (.func 75) [] []] 40], isNil := false, ok := pushT9Ok, obj := pushT9Obj }
def pushNilT : ObjT U := { nv := 0, hp := [], isNil := true, ok := fun ps => ps = [], obj := fun _ => .pushNil }
def rpushT : ObjT U := { nv := 7, hp := [.cells [.int .i64 (.var 0), .int .i64 (.var 1), .int .i64 (.var 2), .int .i64 (.var 3), .int .u64 (.var 4), .int .i64 (.var 5), .int .i64 (.var 6)] 195], isNil := false, ok := rpushTOk, obj := rpushTObj }
def rpushNilT : ObjT U := { nv := 0, hp := [], isNil := true, ok := fun ps => ps = [], obj := fun _ => .rpushNil }
def allT1 : ObjT U := { nv := 7, hp := [.cells [.int .i64 (.var 0), .int .i64 (.var 1), .int .i64 (.var 2), .int .u64 (.var 3), .int .i64 (.var 4), .int .i64 (.var 5), .bool (.lit true), .bool (.lit false), .int .i64 (.var 6), .func (.func 83) [] []] 45], isNil := false, ok := allT1Ok, obj := allT1Obj }
def allT2 : ObjT U := { nv := 7, hp := [.cells [.int .i64 (.var 0), .int .i64 (.var 1), .int .i64 (.var 2), .int .u64 (.var 3), .int .i64 (.var 4), .int .i64 (.var 5), .bool (.lit true), .bool (.lit false), .int .i64 (.var 6), .func (.func 125) [] []] 45], isNil := false, ok := allT2Ok, obj := allT2Obj }
def allT9a : ObjT U := { nv := 6, hp := [.cells [.int .i64 (.var 0), .int .i64 (.var 1), .int .i64 (.var 2), .int .u64 (.var 3), .int .i64 (.var 4), .int .i64 (.var 5), .bool (.lit true), .bool (.lit true), .int .i64 (.lit 0), .func (.func 83) [] []] 45], isNil := false, ok := allT9aOk, obj := allT9aObj }
def allT9b : ObjT U := { nv := 6, hp := [.cells [.int .i64 (.var 0), .int .i64 (.var 1), .int .i64 (.var 2), .int .u64 (.var 3), .int .i64 (.var 4), .int .i64 (.var 5), .bool (.lit true), .bool (.lit true), .int .i64 (.lit 15), .func (.func 125) [] []] 45], isNil := false, ok := allT9bOk, obj := allT9bObj }
def allNilT : ObjT U := { nv := 0, hp := [], isNil := true, ok := fun ps => ps = [], obj := fun _ => .allNil }
def rallT : ObjT U := { nv := 6, hp := [.cells [.int .i64 (.var 0), .int .i64 (.var 1), .int .i64 (.var 2), .int .i64 (.var 3), .int .u64 (.var 4), .int .i64 (.var 5)] 197], isNil := false, ok := rallTOk, obj := rallTObj }
def rallNilT : ObjT U := { nv := 0, hp := [], isNil := true, ok := fun ps => ps = [], obj := fun _ => .rallNil }
def objs : List (ObjT U) := [memT, memNilT, memZeroT, rmemT, rmemNilT, popT1, popT2, popT3, popT9a, popT9b, popNilT, rpopT, rpopNilT, pushT1, pushT2, pushT3, pushT9, pushNilT, rpushT, rpushNilT, allT1, allT2, allT9a, allT9b, allNilT, rallT, rallNilT]

theorem objs_all {p : Nat → ObjT U → Prop} (h0 : p 0 memT) (h1 : p 1 memNilT) (h2 : p 2 memZeroT) (h3 : p 3 rmemT) (h4 : p 4 rmemNilT) (h5 : p 5 popT1) (h6 : p 6 popT2) (h7 : p 7 popT3) (h8 : p 8 popT9a) (h9 : p 9 popT9b) (h10 : p 10 popNilT) (h11 : p 11 rpopT) (h12 : p 12 rpopNilT) (h13 : p 13 pushT1) (h14 : p 14 pushT2) (h15 : p 15 pushT3) (h16 : p 16 pushT9) (h17 : p 17 pushNilT) (h18 : p 18 rpushT) (h19 : p 19 rpushNilT) (h20 : p 20 allT1) (h21 : p 21 allT2) (h22 : p 22 allT9a) (h23 : p 23 allT9b) (h24 : p 24 allNilT) (h25 : p 25 rallT) (h26 : p 26 rallNilT) : ∀ (t : Nat) (T : ObjT U), objs[t]? = some T → p t T := by
  intro t T h
  match t, h with
  | 0, h => cases h; exact h0
  | 1, h => cases h; exact h1
  | 2, h => cases h; exact h2
  | 3, h => cases h; exact h3
  | 4, h => cases h; exact h4
  | 5, h => cases h; exact h5
  | 6, h => cases h; exact h6
  | 7, h => cases h; exact h7
  | 8, h => cases h; exact h8
  | 9, h => cases h; exact h9
  | 10, h => cases h; exact h10
  | 11, h => cases h; exact h11
  | 12, h => cases h; exact h12
  | 13, h => cases h; exact h13
  | 14, h => cases h; exact h14
  | 15, h => cases h; exact h15
  | 16, h => cases h; exact h16
  | 17, h => cases h; exact h17
  | 18, h => cases h; exact h18
  | 19, h => cases h; exact h19
  | 20, h => cases h; exact h20
  | 21, h => cases h; exact h21
  | 22, h => cases h; exact h22
  | 23, h => cases h; exact h23
  | 24, h => cases h; exact h24
  | 25, h => cases h; exact h25
  | 26, h => cases h; exact h26
  | t + 27, h => cases h
theorem objsOk : ObjsOk objs := by
  refine ⟨objs_all ?_ ?_ ?_ ?_ ?_ ?_ ?_ ?_ ?_ ?_ ?_ ?_ ?_ ?_ ?_ ?_ ?_ ?_ ?_ ?_ ?_ ?_ ?_ ?_ ?_ ?_ ?_, objs_all ?_ ?_ ?_ ?_ ?_ ?_ ?_ ?_ ?_ ?_ ?_ ?_ ?_ ?_ ?_ ?_ ?_ ?_ ?_ ?_ ?_ ?_ ?_ ?_ ?_ ?_ ?_, objs_all ?_ ?_ ?_ ?_ ?_ ?_ ?_ ?_ ?_ ?_ ?_ ?_ ?_ ?_ ?_ ?_ ?_ ?_ ?_ ?_ ?_ ?_ ?_ ?_ ?_ ?_ ?_, objs_all ?_ ?_ ?_ ?_ ?_ ?_ ?_ ?_ ?_ ?_ ?_ ?_ ?_ ?_ ?_ ?_ ?_ ?_ ?_ ?_ ?_ ?_ ?_ ?_ ?_ ?_ ?_⟩
  all_goals first
    | (rintro ps ⟨l, s, k, a, o, n, h, N, rfl, _⟩; rfl)
    | (rintro ps ⟨_, _, _, _, _, _, rfl, _⟩; rfl)
    | (rintro ps ⟨_, _, _, _, _, _, _, rfl⟩; rfl)
    | (rintro ps ⟨_, _, _, _, _, _, _, rfl, _⟩; rfl)
    | (rintro ps rfl; rfl)
    | (intro h; cases h; done)
    | (intro _; rfl)
    | (intro _; exact ⟨_, _, rfl⟩)
    | (intro n h hh; match n, hh with | 0, hh => cases hh; rfl | 1, hh => cases hh; rfl | n + 2, hh => cases hh)
    | (intro n h hh; match n, hh with | 0, hh => cases hh; rfl | n + 1, hh => cases hh)
    | (intro n h hh; cases hh)
def kinds : List Nat := [1, 2, 3, 4, 5, 6, 6, 6, 6, 6, 7, 8, 9, 10, 10, 10, 10, 11, 12, 13, 14, 14, 14, 14, 15, 16, 17]
/-- which kind of object a form has -/
theorem kind_of : ∀ (t : Nat) (T : ObjT U), objs[t]? = some T → ∀ ps, T.ok ps → (T.obj ps).kind = kinds.getD t 0 := by
  refine objs_all ?_ ?_ ?_ ?_ ?_ ?_ ?_ ?_ ?_ ?_ ?_ ?_ ?_ ?_ ?_ ?_ ?_ ?_ ?_ ?_ ?_ ?_ ?_ ?_ ?_ ?_ ?_
  all_goals first
    | (rintro ps ⟨l, s, k, a, o, n, h, N, rfl, _⟩; rfl)
    | (rintro ps ⟨_, _, _, _, _, _, rfl, _⟩; rfl)
    | (rintro ps ⟨_, _, _, _, _, _, _, rfl⟩; rfl)
    | (rintro ps ⟨_, _, _, _, _, _, _, rfl, _⟩; rfl)
    | (rintro ps rfl; rfl)
    | (rintro ps ⟨_, _, _, _, _, _, e, rfl⟩; by_cases h : e = 0 <;> simp [pushT9, pushT9Obj, h] <;> rfl)
    | (rintro ps ⟨_, _, _, _, _, _, e, rfl, _⟩; by_cases h : e = 0 <;> simp [rpushT, rpushTObj, h] <;> rfl)
theorem nomore_kind {u : U} {ts : List Nat} (h : ∀ t, t < 27 → t ∉ ts → kinds.getD t 0 ≠ u.kind) : ∀ (t : Nat) (T : ObjT U) (ps : List (EV U)), objs[t]? = some T → t ∉ ts → ps.length = T.nv → T.ok ps → some (EV.u u) ≠ some (EV.u (T.obj ps)) := by
  intro t T ps ht hn _ hok e
  injection e with e; injection e with e
  have hk := kind_of t T ht ps hok
  rw [← e] at hk
  exact h t (List.getElem?_eq_some_iff.1 ht).1 hn hk.symm
theorem mixed : Try.prog.follows .mixedOrders = true := by kernel_rfl
def cx (P : Program) (cts : List (Ctr U)) : Cx U := { P := P, cts := cts, objs := objs, loops := [], hints := [] }
end Go.Proofs.Ytdabdbbgaekmdaa
