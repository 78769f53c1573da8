/- The states of objects, as plain data: memories; what accesses do to them. No program is named here. -/
import Derived.Test.YtdabdbbgaekmdaaSr
namespace Go.Proofs.Ytdabdbbgaekmdaa
set_option linter.unusedVariables false
set_option linter.unusedSimpArgs false
set_option linter.unusedSectionVars false
open Go

theorem cmp_eql_t (x y : Int) : (cmpDen .eql x y = true) = (x = y) := by simp [cmpDen]
theorem cmp_eql_f (x y : Int) : (cmpDen .eql x y = false) = (x ≠ y) := by simp [cmpDen]
theorem cmp_neq_t (x y : Int) : (cmpDen .neq x y = true) = (x ≠ y) := by simp [cmpDen]
theorem cmp_neq_f (x y : Int) : (cmpDen .neq x y = false) = (x = y) := by simp [cmpDen]
theorem cmp_lss_t (x y : Int) : (cmpDen .lss x y = true) = (x < y) := by simp [cmpDen]
theorem cmp_lss_f (x y : Int) : (cmpDen .lss x y = false) = (y ≤ x) := by simp [cmpDen]
theorem cmp_leq_t (x y : Int) : (cmpDen .leq x y = true) = (x ≤ y) := by simp [cmpDen]
theorem cmp_leq_f (x y : Int) : (cmpDen .leq x y = false) = (y < x) := by simp [cmpDen]
theorem cmp_gtr_t (x y : Int) : (cmpDen .gtr x y = true) = (y < x) := by simp [cmpDen]
theorem cmp_gtr_f (x y : Int) : (cmpDen .gtr x y = false) = (x ≤ y) := by simp [cmpDen]
theorem cmp_geq_t (x y : Int) : (cmpDen .geq x y = true) = (y ≤ x) := by simp [cmpDen]
theorem cmp_geq_f (x y : Int) : (cmpDen .geq x y = false) = (x < y) := by simp [cmpDen]

/-- a memory: its words, its last access, how many there were -/
structure MemSt where
  W : List Int
  k : Int
  a : Int
  o : Int
  n : Int
  h : Bool
  N : Int

namespace MemSt
def is (M : MemSt) (at_ : Int) : Bool := decide (0 ≤ at_ ∧ at_ < M.W.length)
def word (M : MemSt) (at_ : Int) : Int := M.W.getD at_.toNat 0
/-- an access: what is there then, is it written? -/
def acc (M : MemSt) (kind at_ w : Int) (held : Bool) : MemSt :=
  if M.is at_ then ⟨M.W.set at_.toNat w, kind, at_, M.word at_, w, held, IntKind.i64.wrap (M.N + 1)⟩
  else ⟨M.W, kind, at_, 0, 0, false, IntKind.i64.wrap (M.N + 1)⟩
def load (M : MemSt) (at_ : Int) : MemSt := M.acc 1 at_ (M.word at_) false
def store (M : MemSt) (at_ w : Int) : MemSt := M.acc 2 at_ w true
def cas (M : MemSt) (at_ x y : Int) : MemSt := if M.word at_ = x then M.acc 3 at_ y true else M.acc 3 at_ (M.word at_) false
def add (M : MemSt) (at_ x : Int) : MemSt := M.acc 4 at_ (IntKind.u64.wrap (M.word at_ + x)) true
def new (n : Int) : MemSt := ⟨List.replicate n.toNat 0, 0, 0, 0, 0, false, 0⟩
end MemSt

/-- a Pop of a stack: its line (1 to 3; 9: it has ended), the stack (three numbers), the word that it loaded, the index, the one behind it -/
structure PopSt where
  line : Int
  top : Int
  links : Int
  size : Int
  w : Int
  i : Int
  j : Int
/-- a Push: its line, the stack, the word that it loaded, the index (0 where it is none), what it came to -/
structure PushSt where
  line : Int
  top : Int
  links : Int
  size : Int
  w : Int
  i : Int
  err : Int
/-- an All -/
structure AllSt where
  line : Int
  top : Int
  links : Int
  size : Int
  w : Int
  i : Int

/-- the objects of this proof -/
inductive U where
  | bad
  | mem (M : MemSt)
  | memNil
  | memZero
  | rmem (M : MemSt)
  | rmemNil
  | pop (P : PopSt)
  | popNil
  | rpop (P : PopSt)
  | rpopNil
  | push (P : PushSt)
  | pushNil
  | rpush (P : PushSt)
  | rpushNil
  | all (P : AllSt)
  | allNil
  | rall (P : AllSt)
  | rallNil
instance : Nil U := ⟨fun s => match s with | .memNil | .rmemNil | .popNil | .rpopNil | .pushNil | .rpushNil | .allNil | .rallNil => true | _ => false⟩
/-- which kind of object is it? -/
def U.kind : U → Nat
  | .bad => 0
  | .mem _ => 1
  | .memNil => 2
  | .memZero => 3
  | .rmem _ => 4
  | .rmemNil => 5
  | .pop _ => 6
  | .popNil => 7
  | .rpop _ => 8
  | .rpopNil => 9
  | .push _ => 10
  | .pushNil => 11
  | .rpush _ => 12
  | .rpushNil => 13
  | .all _ => 14
  | .allNil => 15
  | .rall _ => 16
  | .rallNil => 17

/-! ### forms -/
def memOk (ps : List (EV U)) : Prop := ∃ l s k a o n h N, ps = [.l l, .i s, .i k, .i a, .i o, .i n, .b h, .i N] ∧ l.length = 4096 ∧ 0 ≤ s ∧ s ≤ 4096
def memObj (ps : List (EV U)) : U :=
  match ps with
  | [.l l, .i s, .i k, .i a, .i o, .i n, .b h, .i N] => .mem ⟨l.take s.toNat, k, a, o, n, h, N⟩
  | _ => .bad
def rmemOk (ps : List (EV U)) : Prop := ∃ l s k a o n h N, ps = [.l l, .i s, .i k, .i a, .i o, .i n, .b h, .i N] ∧ (l.length : Int) = s
def rmemObj (ps : List (EV U)) : U :=
  match ps with
  | [.l l, .i _, .i k, .i a, .i o, .i n, .b h, .i N] => .rmem ⟨l, k, a, o, n, h, N⟩
  | _ => .bad
/-- a word read as an index -/
def idxW (size w : Int) : Int := if w % 65536 - 1 ≥ size then -1 else w % 65536 - 1
def popT1Ok (ps : List (EV U)) : Prop := ∃ t l s w i j e, ps = [.i t, .i l, .i s, .i w, .i i, .i j, .i e]
def popT1Obj (ps : List (EV U)) : U := match ps with | [.i t, .i l, .i s, .i w, .i i, .i j, .i _] => .pop ⟨1, t, l, s, w, i, j⟩ | _ => .bad
def popT2Ok (ps : List (EV U)) : Prop := ∃ t l s w i j e, ps = [.i t, .i l, .i s, .i w, .i i, .i j, .i e] ∧ 0 ≤ i
def popT2Obj (ps : List (EV U)) : U := match ps with | [.i t, .i l, .i s, .i w, .i i, .i j, .i _] => .pop ⟨2, t, l, s, w, i, j⟩ | _ => .bad
def popT3Ok (ps : List (EV U)) : Prop := ∃ t l s w i j e, ps = [.i t, .i l, .i s, .i w, .i i, .i j, .i e] ∧ 0 ≤ i
def popT3Obj (ps : List (EV U)) : U := match ps with | [.i t, .i l, .i s, .i w, .i i, .i j, .i _] => .pop ⟨3, t, l, s, w, i, j⟩ | _ => .bad
def popT9aOk (ps : List (EV U)) : Prop := ∃ t l s w i j, ps = [.i t, .i l, .i s, .i w, .i i, .i j] ∧ 0 ≤ i
def popT9aObj (ps : List (EV U)) : U := match ps with | [.i t, .i l, .i s, .i w, .i i, .i j] => .pop ⟨9, t, l, s, w, i, j⟩ | _ => .bad
def popT9bOk (ps : List (EV U)) : Prop := ∃ t l s w i j, ps = [.i t, .i l, .i s, .i w, .i i, .i j] ∧ i < 0
def popT9bObj (ps : List (EV U)) : U := match ps with | [.i t, .i l, .i s, .i w, .i i, .i j] => .pop ⟨9, t, l, s, w, i, j⟩ | _ => .bad
def rpopTOk (ps : List (EV U)) : Prop := ∃ t l s n w i j, ps = [.i t, .i l, .i s, .i n, .i w, .i i, .i j] ∧ (n = 1 ∨ (n = 2 ∨ n = 3) ∧ 0 ≤ i ∨ n = 9)
def rpopTObj (ps : List (EV U)) : U := match ps with | [.i t, .i l, .i s, .i n, .i w, .i i, .i j] => .rpop ⟨n, t, l, s, w, i, j⟩ | _ => .bad
def pushT1Ok (ps : List (EV U)) : Prop := ∃ t l s w i j e, ps = [.i t, .i l, .i s, .i w, .i i, .i j, .i e]
def pushT1Obj (ps : List (EV U)) : U := match ps with | [.i t, .i l, .i s, .i w, .i i, .i _, .i _] => .push ⟨1, t, l, s, w, i, 0⟩ | _ => .bad
def pushT2Ok (ps : List (EV U)) : Prop := ∃ t l s w i j e, ps = [.i t, .i l, .i s, .i w, .i i, .i j, .i e] ∧ j = idxW s w
def pushT2Obj (ps : List (EV U)) : U := match ps with | [.i t, .i l, .i s, .i w, .i i, .i _, .i _] => .push ⟨2, t, l, s, w, i, 0⟩ | _ => .bad
def pushT3Ok (ps : List (EV U)) : Prop := ∃ t l s w i j e, ps = [.i t, .i l, .i s, .i w, .i i, .i j, .i e]
def pushT3Obj (ps : List (EV U)) : U := match ps with | [.i t, .i l, .i s, .i w, .i i, .i _, .i _] => .push ⟨3, t, l, s, w, i, 0⟩ | _ => .bad
def pushT9Ok (ps : List (EV U)) : Prop := ∃ t l s w i j e, ps = [.i t, .i l, .i s, .i w, .i i, .i j, .i e]
def pushT9Obj (ps : List (EV U)) : U := match ps with | [.i t, .i l, .i s, .i w, .i i, .i _, .i e] => .push (if e = 0 then ⟨9, t, l, s, w, i, 0⟩ else ⟨9, 0, 0, 0, 0, 0, e⟩) | _ => .bad
def rpushTOk (ps : List (EV U)) : Prop := ∃ t l s n w i e, ps = [.i t, .i l, .i s, .i n, .i w, .i i, .i e] ∧ ((n = 1 ∨ n = 2 ∨ n = 3) ∧ e = 0 ∨ n = 9)
def rpushTObj (ps : List (EV U)) : U := match ps with | [.i t, .i l, .i s, .i n, .i w, .i i, .i e] => .rpush (if e = 0 then ⟨n, t, l, s, w, i, 0⟩ else ⟨9, 0, 0, 0, 0, 0, e⟩) | _ => .bad
def allT1Ok (ps : List (EV U)) : Prop := ∃ t l s w i j e, ps = [.i t, .i l, .i s, .i w, .i i, .i j, .i e]
def allT1Obj (ps : List (EV U)) : U := match ps with | [.i t, .i l, .i s, .i w, .i i, .i _, .i _] => .all ⟨1, t, l, s, w, i⟩ | _ => .bad
def allT2Ok (ps : List (EV U)) : Prop := ∃ t l s w i j e, ps = [.i t, .i l, .i s, .i w, .i i, .i j, .i e] ∧ 0 ≤ i
def allT2Obj (ps : List (EV U)) : U := match ps with | [.i t, .i l, .i s, .i w, .i i, .i _, .i _] => .all ⟨2, t, l, s, w, i⟩ | _ => .bad
def allT9aOk (ps : List (EV U)) : Prop := ∃ t l s w i j, ps = [.i t, .i l, .i s, .i w, .i i, .i j] ∧ 0 ≤ i
def allT9aObj (ps : List (EV U)) : U := match ps with | [.i t, .i l, .i s, .i w, .i i, .i _] => .all ⟨9, t, l, s, w, i⟩ | _ => .bad
def allT9bOk (ps : List (EV U)) : Prop := ∃ t l s w i j, ps = [.i t, .i l, .i s, .i w, .i i, .i j] ∧ i < 0
def allT9bObj (ps : List (EV U)) : U := match ps with | [.i t, .i l, .i s, .i w, .i i, .i _] => .all ⟨9, t, l, s, w, i⟩ | _ => .bad
def rallTOk (ps : List (EV U)) : Prop := ∃ t l s n w i, ps = [.i t, .i l, .i s, .i n, .i w, .i i] ∧ (n = 1 ∨ n = 2 ∧ 0 ≤ i ∨ n = 9)
def rallTObj (ps : List (EV U)) : U := match ps with | [.i t, .i l, .i s, .i n, .i w, .i i] => .rall ⟨n, t, l, s, w, i⟩ | _ => .bad
end Go.Proofs.Ytdabdbbgaekmdaa
