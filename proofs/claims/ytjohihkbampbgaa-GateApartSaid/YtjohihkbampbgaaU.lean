/- The states of objects, as plain data: memories; what accesses do to them. No program is named here. -/
import Derived.Test.YtjohihkbampbgaaSr
namespace Go.Proofs.Ytjohihkbampbgaa
set_option linter.unusedVariables false
set_option linter.unusedSimpArgs false
set_option linter.unusedSectionVars false
open Go

theorem cmp_eql_t (x y : Int) : (cmpDen .eql x y = true) = (x = y) := by simp [cmpDen]
theorem cmp_eql_f (x y : Int) : (cmpDen .eql x y = false) = (x ≠ y) := by simp [cmpDen]
theorem cmp_neq_t (x y : Int) : (cmpDen .neq x y = true) = (x ≠ y) := by simp [cmpDen]
theorem cmp_neq_f (x y : Int) : (cmpDen .neq x y = false) = (x = y) := by simp [cmpDen]
theorem cmp_lss_t (x y : Int) : (cmpDen .lss x y = true) = (x < y) := by simp [cmpDen]
theorem cmp_lss_f (x y : Int) : (cmpDen .lss x y = false) = (y ≤ x) := by simp [cmpDen]
theorem cmp_leq_t (x y : Int) : (cmpDen .leq x y = true) = (x ≤ y) := by simp [cmpDen]
theorem cmp_leq_f (x y : Int) : (cmpDen .leq x y = false) = (y < x) := by simp [cmpDen]
theorem cmp_gtr_t (x y : Int) : (cmpDen .gtr x y = true) = (y < x) := by simp [cmpDen]
theorem cmp_gtr_f (x y : Int) : (cmpDen .gtr x y = false) = (x ≤ y) := by simp [cmpDen]
theorem cmp_geq_t (x y : Int) : (cmpDen .geq x y = true) = (y ≤ x) := by simp [cmpDen]
theorem cmp_geq_f (x y : Int) : (cmpDen .geq x y = false) = (x < y) := by simp [cmpDen]

/-- a memory: its words, its last access, how many there were -/
structure MemSt where
  W : List Int
  k : Int
  a : Int
  o : Int
  n : Int
  h : Bool
  N : Int

namespace MemSt
def is (M : MemSt) (at_ : Int) : Bool := decide (0 ≤ at_ ∧ at_ < M.W.length)
def word (M : MemSt) (at_ : Int) : Int := M.W.getD at_.toNat 0
/-- an access: what is there then, is it written? -/
def acc (M : MemSt) (kind at_ w : Int) (held : Bool) : MemSt :=
  if M.is at_ then ⟨M.W.set at_.toNat w, kind, at_, M.word at_, w, held, IntKind.i64.wrap (M.N + 1)⟩
  else ⟨M.W, kind, at_, 0, 0, false, IntKind.i64.wrap (M.N + 1)⟩
def load (M : MemSt) (at_ : Int) : MemSt := M.acc 1 at_ (M.word at_) false
def store (M : MemSt) (at_ w : Int) : MemSt := M.acc 2 at_ w true
def cas (M : MemSt) (at_ x y : Int) : MemSt := if M.word at_ = x then M.acc 3 at_ y true else M.acc 3 at_ (M.word at_) false
def add (M : MemSt) (at_ x : Int) : MemSt := M.acc 4 at_ (IntKind.u64.wrap (M.word at_ + x)) true
def new (n : Int) : MemSt := ⟨List.replicate n.toNat 0, 0, 0, 0, 0, false, 0⟩
end MemSt

/-- a Pass of a gate: its line (9: it has ended), its cell, how far apart, its time, what it loaded, what it came to -/
structure PassSt where
  line : Int
  at_ : Int
  apart : Int
  now : Int
  w : Int
  err : Int

/-- a Pin of an epoch: its line (0 to 2; -1: it has ended), the cells of the epoch and of its pin, the epoch that it read, what it came to -/
structure EPinSt where
  line : Int
  at_ : Int
  pin : Int
  now : Int
  err : Int
structure EUnpSt where
  line : Int
  pin : Int
  err : Int
/-- an Advance: its line, the epoch (three numbers), whose it is, at which epoch, the word that it read, whose pin is next, what it came to -/
structure EAdvSt where
  line : Int
  at_ : Int
  pins : Int
  cores : Int
  c : Int
  p : Int
  w : Int
  next : Int
  err : Int

/-- the objects of this proof -/
inductive U where
  | bad
  | mem (M : MemSt)
  | memNil
  | memZero
  | rmem (M : MemSt)
  | rmemNil
  | pass (P : PassSt)
  | passNil
  | rpass (P : PassSt)
  | rpassNil
  | epin (P : EPinSt)
  | epinNil
  | repin (P : EPinSt)
  | repinNil
  | eunp (P : EUnpSt)
  | eunpNil
  | reunp (P : EUnpSt)
  | reunpNil
  | eadv (P : EAdvSt)
  | eadvNil
  | readv (P : EAdvSt)
  | readvNil
instance : Nil U := ⟨fun s => match s with | .memNil | .rmemNil | .passNil | .rpassNil | .epinNil | .repinNil | .eunpNil | .reunpNil | .eadvNil | .readvNil => true | _ => false⟩
/-- which kind of object is it? -/
def U.kind : U → Nat
  | .bad => 0
  | .mem _ => 1
  | .memNil => 2
  | .memZero => 3
  | .rmem _ => 4
  | .rmemNil => 5
  | .pass _ => 6
  | .passNil => 7
  | .rpass _ => 8
  | .rpassNil => 9
  | .epin _ => 10
  | .epinNil => 11
  | .repin _ => 12
  | .repinNil => 13
  | .eunp _ => 14
  | .eunpNil => 15
  | .reunp _ => 16
  | .reunpNil => 17
  | .eadv _ => 18
  | .eadvNil => 19
  | .readv _ => 20
  | .readvNil => 21

/-! ### forms -/
def memOk (ps : List (EV U)) : Prop := ∃ l s k a o n h N, ps = [.l l, .i s, .i k, .i a, .i o, .i n, .b h, .i N] ∧ l.length = 4096 ∧ 0 ≤ s ∧ s ≤ 4096
def memObj (ps : List (EV U)) : U :=
  match ps with
  | [.l l, .i s, .i k, .i a, .i o, .i n, .b h, .i N] => .mem ⟨l.take s.toNat, k, a, o, n, h, N⟩
  | _ => .bad
def rmemOk (ps : List (EV U)) : Prop := ∃ l s k a o n h N, ps = [.l l, .i s, .i k, .i a, .i o, .i n, .b h, .i N] ∧ (l.length : Int) = s
def rmemObj (ps : List (EV U)) : U :=
  match ps with
  | [.l l, .i _, .i k, .i a, .i o, .i n, .b h, .i N] => .rmem ⟨l, k, a, o, n, h, N⟩
  | _ => .bad
def passOk4 (ps : List (EV U)) : Prop := ∃ a p n w, ps = [.i a, .i p, .i n, .i w]
def passOk5 (ps : List (EV U)) : Prop := ∃ a p n w e, ps = [.i a, .i p, .i n, .i w, .i e]
def passObj1 (ps : List (EV U)) : U := match ps with | [.i a, .i p, .i n, .i w] => .pass ⟨1, a, p, n, w, 0⟩ | _ => .bad
def passObj2 (ps : List (EV U)) : U := match ps with | [.i a, .i p, .i n, .i w] => .pass ⟨2, a, p, n, w, 0⟩ | _ => .bad
def passObj9 (ps : List (EV U)) : U := match ps with | [.i a, .i p, .i n, .i w, .i e] => .pass ⟨9, a, p, n, w, e⟩ | _ => .bad
def rpassOk (ps : List (EV U)) : Prop := ∃ a p n l w e, ps = [.i a, .i p, .i n, .i l, .i w, .i e]
def rpassObj (ps : List (EV U)) : U := match ps with | [.i a, .i p, .i n, .i l, .i w, .i e] => .rpass ⟨l, a, p, n, w, e⟩ | _ => .bad

/-! ### epochs -/
def rline (l : Int) : Int := if l = 9 then -1 else l - 1
def epinOk (ps : List (EV U)) : Prop := ∃ l e a b n q w, ps = [.i l, .i e, .i a, .i b, .i n, .i q, .i w] ∧ (l = 0 ∨ l = 1 ∨ l = 2 ∨ l = -1) ∧ 0 ≤ w ∧ w < 4294967296
def epinObj (ps : List (EV U)) : U := match ps with | [.i l, .i e, .i a, .i _, .i _, .i q, .i w] => .epin ⟨l, a, q, w, e⟩ | _ => .bad
def ok3 (ps : List (EV U)) : Prop := ∃ a b n, ps = [.i a, .i b, .i n]
def epinBadObj (ps : List (EV U)) : U := match ps with | [.i _, .i _, .i _] => .epin ⟨-1, 0, 0, 0, 3⟩ | _ => .bad
def repinOk (ps : List (EV U)) : Prop := ∃ a b n c l q e, ps = [.i a, .i b, .i n, .i c, .i l, .i q, .i e] ∧ (l = 1 ∨ l = 2 ∨ l = 3 ∨ l = 9) ∧ 0 ≤ q ∧ q < 4294967296
def repinObj (ps : List (EV U)) : U := match ps with | [.i a, .i b, .i _, .i c, .i l, .i q, .i e] => .repin ⟨rline l, a, IntKind.i64.wrap (b + c), q, e⟩ | _ => .bad
def eunpOk (ps : List (EV U)) : Prop := ∃ l e q, ps = [.i l, .i e, .i q] ∧ (l = 0 ∨ l = -1)
def eunpObj (ps : List (EV U)) : U := match ps with | [.i l, .i e, .i q] => .eunp ⟨l, q, e⟩ | _ => .bad
def ok1 (ps : List (EV U)) : Prop := ∃ a, ps = [.i a]
def eunpBadObj (ps : List (EV U)) : U := match ps with | [.i _] => .eunp ⟨-1, 0, 3⟩ | _ => .bad
def reunpOk (ps : List (EV U)) : Prop := ∃ a b n c l e, ps = [.i a, .i b, .i n, .i c, .i l, .i e] ∧ (l = 1 ∨ l = 9)
def reunpObj (ps : List (EV U)) : U := match ps with | [.i _, .i b, .i _, .i c, .i l, .i e] => .reunp ⟨rline l, IntKind.i64.wrap (b + c), e⟩ | _ => .bad
def eadvOk (ps : List (EV U)) : Prop := ∃ l e a b n c p w k, ps = [.i l, .i e, .i a, .i b, .i n, .i c, .i p, .i w, .i k] ∧ (l = 0 ∨ (l = 1 ∨ l = 2) ∧ IntKind.u32.wrap w = p ∨ l = -1) ∧ (l = 1 → 0 ≤ k ∧ k < n)
def eadvObj (ps : List (EV U)) : U := match ps with | [.i l, .i e, .i a, .i b, .i n, .i c, .i p, .i w, .i k] => .eadv ⟨l, a, b, n, c, p, w, if l = 1 then k else 0, e⟩ | _ => .bad
def ok5 (ps : List (EV U)) : Prop := ∃ a b n c p, ps = [.i a, .i b, .i n, .i c, .i p]
def eadvBadObj (ps : List (EV U)) : U := match ps with | [.i _, .i _, .i _, .i _, .i _] => .eadv ⟨-1, 0, 0, 0, 0, 0, 0, 0, 3⟩ | _ => .bad
def readvOk (ps : List (EV U)) : Prop := ∃ a b n c p l w k e, ps = [.i a, .i b, .i n, .i c, .i p, .i l, .i w, .i k, .i e] ∧ (l = 1 ∧ k = 0 ∨ (l = 2 ∨ l = 3) ∧ IntKind.u32.wrap w = p ∨ l = 9) ∧ (l = 2 → 0 ≤ k ∧ k < n)
def readvObj (ps : List (EV U)) : U := match ps with | [.i a, .i b, .i n, .i c, .i p, .i l, .i w, .i k, .i e] => .readv ⟨rline l, a, b, n, c, p, w, if l = 2 then k else 0, e⟩ | _ => .bad
end Go.Proofs.Ytjohihkbampbgaa
