/- The forms of the objects of this seat. -/
import Derived.Test.YtbmbiiiacajolaaProg
import Derived.Test.YtbmbiiiacajolaaU
namespace Go.Proofs.Ytbmbiiiacajolaa
set_option linter.unusedVariables false
set_option linter.unusedSimpArgs false
set_option linter.unusedSectionVars false
open Go

def memT : ObjT U := { nv := 8, hp := [.cells [.ptr 1 0, .int .i64 (.var 1), .int .i64 (.var 2), .int .i64 (.var 3), .int .u64 (.var 4), .int .u64 (.var 5), .bool (.var 6), .int .i64 (.var 7)] 120, .row .u64 116 0], isNil := false, ok := memOk, obj := memObj }
def memNilT : ObjT U := { nv := 0, hp := [], isNil := true, ok := fun ps => ps = [], obj := fun _ => .memNil }
def memZeroT : ObjT U := { nv := 0, hp := [.cells [.nilp, .int .i64 (.lit 0), .int .i64 (.lit 0), .int .i64 (.lit 0), .int .u64 (.lit 0), .int .u64 (.lit 0), .bool (.lit false), .int .i64 (.lit 0)] 120], isNil := false, ok := fun ps => ps = [], obj := fun _ => .memZero }
def objs : List (ObjT U) := [memT, memNilT, memZeroT]

theorem objs_all {p : Nat → ObjT U → Prop} (h0 : p 0 memT) (h1 : p 1 memNilT) (h2 : p 2 memZeroT) : ∀ (t : Nat) (T : ObjT U), objs[t]? = some T → p t T := by
  intro t T h
  match t, h with
  | 0, h => cases h; exact h0
  | 1, h => cases h; exact h1
  | 2, h => cases h; exact h2
  | t + 3, h => cases h
theorem objsOk : ObjsOk objs := by
  refine ⟨objs_all ?_ ?_ ?_, objs_all ?_ ?_ ?_, objs_all ?_ ?_ ?_, objs_all ?_ ?_ ?_⟩
  all_goals first
    | (rintro ps ⟨l, s, k, a, o, n, h, N, rfl, _⟩; rfl)
    | (rintro ps rfl; rfl)
    | (intro h; cases h; done)
    | (intro _; rfl)
    | (intro _; exact ⟨_, _, rfl⟩)
    | (intro n h hh; match n, hh with | 0, hh => cases hh; rfl | 1, hh => cases hh; rfl | n + 2, hh => cases hh)
    | (intro n h hh; match n, hh with | 0, hh => cases hh; rfl | n + 1, hh => cases hh)
    | (intro n h hh; cases hh)
def kinds : List Nat := [1, 2, 3]
/-- which kind of object a form has -/
theorem kind_of : ∀ (t : Nat) (T : ObjT U), objs[t]? = some T → ∀ ps, T.ok ps → (T.obj ps).kind = kinds.getD t 0 := by
  refine objs_all ?_ ?_ ?_
  all_goals first
    | (rintro ps ⟨l, s, k, a, o, n, h, N, rfl, _⟩; rfl)
    | (rintro ps rfl; rfl)
    | (rintro ps ⟨_, _, _, _, _, _, e, rfl⟩; by_cases h : e = 0 <;> simp [pushT9, pushT9Obj, h] <;> rfl)
    | (rintro ps ⟨_, _, _, _, _, _, e, rfl, _⟩; by_cases h : e = 0 <;> simp [rpushT, rpushTObj, h] <;> rfl)
theorem nomore_kind {u : U} {ts : List Nat} (h : ∀ t, t < 3 → t ∉ ts → kinds.getD t 0 ≠ u.kind) : ∀ (t : Nat) (T : ObjT U) (ps : List (EV U)), objs[t]? = some T → t ∉ ts → ps.length = T.nv → T.ok ps → some (EV.u u) ≠ some (EV.u (T.obj ps)) := by
  intro t T ps ht hn _ hok e
  injection e with e; injection e with e
  have hk := kind_of t T ht ps hok
  rw [← e] at hk
  exact h t (List.getElem?_eq_some_iff.1 ht).1 hn hk.symm
theorem mixed : Try.prog.follows .mixedOrders = true := by kernel_rfl
def cx (P : Program) (cts : List (Ctr U)) : Cx U := { P := P, cts := cts, objs := objs, loops := [], hints := [] }
end Go.Proofs.Ytbmbiiiacajolaa
