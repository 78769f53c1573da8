/- The states of objects, as plain data: memories; what accesses do to them. No program is named here. -/
import Derived.Test.YtbmbiiiacajolaaSr
namespace Go.Proofs.Ytbmbiiiacajolaa
set_option linter.unusedVariables false
set_option linter.unusedSimpArgs false
set_option linter.unusedSectionVars false
open Go

theorem cmp_eql_t (x y : Int) : (cmpDen .eql x y = true) = (x = y) := by simp [cmpDen]
theorem cmp_eql_f (x y : Int) : (cmpDen .eql x y = false) = (x ≠ y) := by simp [cmpDen]
theorem cmp_neq_t (x y : Int) : (cmpDen .neq x y = true) = (x ≠ y) := by simp [cmpDen]
theorem cmp_neq_f (x y : Int) : (cmpDen .neq x y = false) = (x = y) := by simp [cmpDen]
theorem cmp_lss_t (x y : Int) : (cmpDen .lss x y = true) = (x < y) := by simp [cmpDen]
theorem cmp_lss_f (x y : Int) : (cmpDen .lss x y = false) = (y ≤ x) := by simp [cmpDen]
theorem cmp_leq_t (x y : Int) : (cmpDen .leq x y = true) = (x ≤ y) := by simp [cmpDen]
theorem cmp_leq_f (x y : Int) : (cmpDen .leq x y = false) = (y < x) := by simp [cmpDen]
theorem cmp_gtr_t (x y : Int) : (cmpDen .gtr x y = true) = (y < x) := by simp [cmpDen]
theorem cmp_gtr_f (x y : Int) : (cmpDen .gtr x y = false) = (x ≤ y) := by simp [cmpDen]
theorem cmp_geq_t (x y : Int) : (cmpDen .geq x y = true) = (y ≤ x) := by simp [cmpDen]
theorem cmp_geq_f (x y : Int) : (cmpDen .geq x y = false) = (x < y) := by simp [cmpDen]

/-- a memory: its words, its last access, how many there were -/
structure MemSt where
  W : List Int
  k : Int
  a : Int
  o : Int
  n : Int
  h : Bool
  N : Int

namespace MemSt
def is (M : MemSt) (at_ : Int) : Bool := decide (0 ≤ at_ ∧ at_ < M.W.length)
def word (M : MemSt) (at_ : Int) : Int := M.W.getD at_.toNat 0
/-- an access: what is there then, is it written? -/
def acc (M : MemSt) (kind at_ w : Int) (held : Bool) : MemSt :=
  if M.is at_ then ⟨M.W.set at_.toNat w, kind, at_, M.word at_, w, held, IntKind.i64.wrap (M.N + 1)⟩
  else ⟨M.W, kind, at_, 0, 0, false, IntKind.i64.wrap (M.N + 1)⟩
def load (M : MemSt) (at_ : Int) : MemSt := M.acc 1 at_ (M.word at_) false
def store (M : MemSt) (at_ w : Int) : MemSt := M.acc 2 at_ w true
def cas (M : MemSt) (at_ x y : Int) : MemSt := if M.word at_ = x then M.acc 3 at_ y true else M.acc 3 at_ (M.word at_) false
def add (M : MemSt) (at_ x : Int) : MemSt := M.acc 4 at_ (IntKind.u64.wrap (M.word at_ + x)) true
def new (n : Int) : MemSt := ⟨List.replicate n.toNat 0, 0, 0, 0, 0, false, 0⟩
end MemSt

/-- the objects of this proof -/
inductive U where
  | bad
  | mem (M : MemSt)
  | memNil
  | memZero
  | rmem (M : MemSt)
  | rmemNil
instance : Nil U := ⟨fun s => match s with | .memNil | .rmemNil => true | _ => false⟩
/-- which kind of object is it? -/
def U.kind : U → Nat
  | .bad => 0
  | .mem _ => 1
  | .memNil => 2
  | .memZero => 3
  | .rmem _ => 4
  | .rmemNil => 5

/-! ### forms -/
def memOk (ps : List (EV U)) : Prop := ∃ l s k a o n h N, ps = [.l l, .i s, .i k, .i a, .i o, .i n, .b h, .i N] ∧ l.length = 4096 ∧ 0 ≤ s ∧ s ≤ 4096
def memObj (ps : List (EV U)) : U :=
  match ps with
  | [.l l, .i s, .i k, .i a, .i o, .i n, .b h, .i N] => .mem ⟨l.take s.toNat, k, a, o, n, h, N⟩
  | _ => .bad
def rmemOk (ps : List (EV U)) : Prop := ∃ l s k a o n h N, ps = [.l l, .i s, .i k, .i a, .i o, .i n, .b h, .i N] ∧ (l.length : Int) = s
def rmemObj (ps : List (EV U)) : U :=
  match ps with
  | [.l l, .i _, .i k, .i a, .i o, .i n, .b h, .i N] => .rmem ⟨l, k, a, o, n, h, N⟩
  | _ => .bad
end Go.Proofs.Ytbmbiiiacajolaa
