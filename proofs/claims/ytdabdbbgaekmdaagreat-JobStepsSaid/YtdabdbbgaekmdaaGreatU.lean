/- The states of objects, as plain data: memories; what accesses do to them. No program is named here. -/
import Derived.Test.YtdabdbbgaekmdaaGreatSr
namespace Go.Proofs.YtdabdbbgaekmdaaGreat
set_option linter.unusedVariables false
set_option linter.unusedSimpArgs false
set_option linter.unusedSectionVars false
open Go

theorem cmp_eql_t (x y : Int) : (cmpDen .eql x y = true) = (x = y) := by simp [cmpDen]
theorem cmp_eql_f (x y : Int) : (cmpDen .eql x y = false) = (x ≠ y) := by simp [cmpDen]
theorem cmp_neq_t (x y : Int) : (cmpDen .neq x y = true) = (x ≠ y) := by simp [cmpDen]
theorem cmp_neq_f (x y : Int) : (cmpDen .neq x y = false) = (x = y) := by simp [cmpDen]
theorem cmp_lss_t (x y : Int) : (cmpDen .lss x y = true) = (x < y) := by simp [cmpDen]
theorem cmp_lss_f (x y : Int) : (cmpDen .lss x y = false) = (y ≤ x) := by simp [cmpDen]
theorem cmp_leq_t (x y : Int) : (cmpDen .leq x y = true) = (x ≤ y) := by simp [cmpDen]
theorem cmp_leq_f (x y : Int) : (cmpDen .leq x y = false) = (y < x) := by simp [cmpDen]
theorem cmp_gtr_t (x y : Int) : (cmpDen .gtr x y = true) = (y < x) := by simp [cmpDen]
theorem cmp_gtr_f (x y : Int) : (cmpDen .gtr x y = false) = (x ≤ y) := by simp [cmpDen]
theorem cmp_geq_t (x y : Int) : (cmpDen .geq x y = true) = (y ≤ x) := by simp [cmpDen]
theorem cmp_geq_f (x y : Int) : (cmpDen .geq x y = false) = (x < y) := by simp [cmpDen]

/-- a memory: its words, its last access, how many there were -/
structure MemSt where
  W : List Int
  k : Int
  a : Int
  o : Int
  n : Int
  h : Bool
  N : Int

namespace MemSt
def is (M : MemSt) (at_ : Int) : Bool := decide (0 ≤ at_ ∧ at_ < M.W.length)
def word (M : MemSt) (at_ : Int) : Int := M.W.getD at_.toNat 0
/-- an access: what is there then, is it written? -/
def acc (M : MemSt) (kind at_ w : Int) (held : Bool) : MemSt :=
  if M.is at_ then ⟨M.W.set at_.toNat w, kind, at_, M.word at_, w, held, IntKind.i64.wrap (M.N + 1)⟩
  else ⟨M.W, kind, at_, 0, 0, false, IntKind.i64.wrap (M.N + 1)⟩
def load (M : MemSt) (at_ : Int) : MemSt := M.acc 1 at_ (M.word at_) false
def store (M : MemSt) (at_ w : Int) : MemSt := M.acc 2 at_ w true
def cas (M : MemSt) (at_ x y : Int) : MemSt := if M.word at_ = x then M.acc 3 at_ y true else M.acc 3 at_ (M.word at_) false
def add (M : MemSt) (at_ x : Int) : MemSt := M.acc 4 at_ (IntKind.u64.wrap (M.word at_ + x)) true
def new (n : Int) : MemSt := ⟨List.replicate n.toNat 0, 0, 0, 0, 0, false, 0⟩
end MemSt

/-- an operation of a job: its kind (1: Take, 2: Give, 3: Turn; 0: it has ended), the jobs (5 numbers), its line (0: the pop, 1: the load, 2: the swap, 3: the push, 9: it has ended), the job, the word that it loaded; the line, the word and the next one of its pop or push; from, to, core; what it came to -/
structure OpSt where
  k : Int
  l : List Int
  line : Int
  i : Int
  w : Int
  pl : Int
  pw : Int
  pj : Int
  fr : Int
  to : Int
  co : Int
  err : Int
/-- a Key or a KeyOf: its cell, its word, its line (1, 9), what it came to -/
structure KeySt where
  at_ : Int
  w : Int
  line : Int
  err : Int
/-- a word read as an index -/
def idxW (size w : Int) : Int := if w % 65536 - 1 ≥ size then -1 else w % 65536 - 1
/-- may a state turn so? -/
def mayB (fr to : Int) : Bool := decide (fr = 2 ∧ to = 3 ∨ fr = 3 ∧ (to = 2 ∨ to = 4) ∨ fr = 4 ∧ (to = 3 ∨ to = 5))

/-- the objects of this proof -/
inductive U where
  | bad
  | mem (M : MemSt)
  | memNil
  | memZero
  | rmem (M : MemSt)
  | rmemNil
  | take (O : OpSt)
  | takeNil
  | give (O : OpSt)
  | giveNil
  | turn (O : OpSt)
  | turnNil
  | key (K : KeySt)
  | keyNil
  | keyOf (K : KeySt)
  | keyOfNil
  | rop (O : OpSt)
  | ropNil
  | rkey (ld : Bool) (K : KeySt)
  | rkeyNil
instance : Nil U := ⟨fun s => match s with | .memNil | .rmemNil | .takeNil | .giveNil | .turnNil | .keyNil | .keyOfNil | .ropNil | .rkeyNil => true | _ => false⟩
def vI : Option (EV U) → Int | some (.i n) => n | _ => 0
def vB : Option (EV U) → Bool | some (.b x) => x | _ => false
def vL : Option (EV U) → List Int | some (.l x) => x | _ => []
def vF : Option (EV U) → Nat → Nat → Int | some (.f g _) => g | _ => fun _ _ => 0
def vN : Option (EV U) → Nat | some (.f _ n) => n | _ => 0
def vU : Option (EV U) → Bool | some (.u s) => Nil.isNil s | _ => false
/-- rules of a walk, in one -/
theorem dn : (∀ (α β : Type) (f : α → β) (a : α) (l : List α), (a :: l).map f = f a :: l.map f) ∧ (∀ (α β : Type) (f : α → β), ([] : List α).map f = []) ∧ (∀ (α : Type) (a : α) (l m : List α), a :: l ++ m = a :: (l ++ m)) ∧ (∀ (α : Type) (l : List α), [] ++ l = l) ∧ (∀ (α : Type) (a : α) (l : List α), (a :: l)[0]? = some a) ∧ (∀ (α : Type) (a : α) (l : List α) (i : Nat), (a :: l)[i + 1]? = l[i]?) ∧ (∀ (α : Type) (a b : α), (some a).getD b = a) ∧ (∀ x y : Int, (cmpDen .eql x y = true) = (x = y)) ∧ (∀ x y : Int, (cmpDen .eql x y = false) = (x ≠ y)) ∧ (∀ x y : Int, (cmpDen .neq x y = true) = (x ≠ y)) ∧ (∀ x y : Int, (cmpDen .neq x y = false) = (x = y)) ∧ (∀ x y : Int, (cmpDen .lss x y = true) = (x < y)) ∧ (∀ x y : Int, (cmpDen .lss x y = false) = (y ≤ x)) ∧ (∀ x y : Int, (cmpDen .leq x y = true) = (x ≤ y)) ∧ (∀ x y : Int, (cmpDen .leq x y = false) = (y < x)) ∧ (∀ x y : Int, (cmpDen .gtr x y = true) = (y < x)) ∧ (∀ x y : Int, (cmpDen .gtr x y = false) = (x ≤ y)) ∧ (∀ x y : Int, (cmpDen .geq x y = true) = (y ≤ x)) ∧ (∀ x y : Int, (cmpDen .geq x y = false) = (x < y)) ∧ (∀ b : Bool, ((!b) = true) = (b = false)) ∧ (∀ b : Bool, ((!b) = false) = (b = true)) ∧ (∀ a b : Bool, ((a && b) = true) = (a = true ∧ b = true)) ∧ (∀ a b : Bool, ((a && b) = false) = (a = false ∨ b = false)) ∧ (∀ (α : Type) (a b : α), (some a = some b) = (a = b)) ∧ (∀ p : Prop, (p ∧ p) = p) ∧ (∀ p : Prop, (True ∧ p) = p) ∧ (∀ p : Prop, (p ∧ True) = p) ∧ (∀ p : Prop, (p ∨ False) = p) ∧ (∀ p : Prop, (False ∨ p) = p) ∧ (∀ p : Prop, (p ∨ p) = p) ∧ (∀ (V : Type) (a b : V), (EV.u a = EV.u b) = (a = b)) ∧ ((¬ True) = False) ∧ ((¬ False) = True) ∧ ((true = false) = False) ∧ ((false = true) = False) ∧ (∀ (α : Type) (a b : α), (a ≠ b) = ¬ a = b) ∧ (∀ a : Int, (a == a) = true) ∧ (∀ a : Bool, (a == a) = true) ∧ (∀ (e : List (EV U)) (n : Int), Ex.den e (.lit n) = n) ∧ (∀ (e : List (EV U)) (i : Nat), Ex.den e (.var i) = gI e i) ∧ (∀ (e : List (EV U)) (o : BinOp) (k : IntKind) (a b : Ex), Ex.den e (.bin o k a b) = binDen o k (a.den e) (b.den e)) ∧ (∀ (e : List (EV U)) (k : IntKind) (a : Ex), Ex.den e (.conv k a) = k.wrap (a.den e)) ∧ (∀ (e : List (EV U)) (i : Nat), Ex.den e (.len i) = ((gL e i).length : Int)) ∧ (∀ (e : List (EV U)) (i : Nat) (a : Ex), Ex.den e (.nth i a) = (gL e i).getD (a.den e).toNat 0) ∧ (∀ (e : List (EV U)) (i : Nat) (a : Ex) (c : Nat), Ex.den e (.fld i a c) = gF e i (a.den e).toNat c) ∧ (∀ (e : List (EV U)) (i : Nat), Ex.den e (.nrow i) = (gN e i : Int)) ∧ (∀ (e : List (EV U)) (b : Bool), Bx.den e (.lit b) = b) ∧ (∀ (e : List (EV U)) (i : Nat), Bx.den e (.var i) = gB e i) ∧ (∀ (e : List (EV U)) (o : BinOp) (a b : Ex), Bx.den e (.cmp o a b) = cmpDen o (a.den e) (b.den e)) ∧ (∀ (e : List (EV U)) (a b : Bx), Bx.den e (.beq a b) = (a.den e == b.den e)) ∧ (∀ (e : List (EV U)) (a : Bx), Bx.den e (.not a) = (!a.den e)) ∧ (∀ (e : List (EV U)) (a b : Bx), Bx.den e (.and a b) = (a.den e && b.den e)) ∧ (∀ (e : List (EV U)) (i : Nat), Bx.den e (.isnil i) = gNil e i) ∧ (∀ (e : List (EV U)) (i : Nat) (a : Ex) (c : Nat), Bx.den e (.fld i a c) = (gF e i (a.den e).toNat c != 0)) ∧ (∀ (e : List (EV U)) (i : Nat) (a : Ex), Bx.den e (.mem i a) = decide (a.den e ∈ gL e i)) ∧ (∀ (e : List (EV U)) (a : Ex), Bnd.den e (.ex a) = .i (a.den e)) ∧ (∀ (e : List (EV U)) (b : Bx), Bnd.den e (.bx b) = .b (b.den e)) ∧ (∀ (e : List (EV U)) (i : Nat), Bnd.den e (.var i) = e.getD i (.i 0)) ∧ (∀ (e : List (EV U)) (i : Nat), gI e i = vI e[i]?) ∧ (∀ (n : Int), vI (some (.i n)) = n) ∧ (∀ (e : List (EV U)) (i : Nat), gB e i = vB e[i]?) ∧ (∀ (x : Bool), vB (some (.b x)) = x) ∧ (∀ (e : List (EV U)) (i : Nat), gL e i = vL e[i]?) ∧ (∀ (x : List Int), vL (some (.l x)) = x) ∧ (∀ (e : List (EV U)) (i : Nat), gF e i = vF e[i]?) ∧ (∀ (g : Nat → Nat → Int) (n : Nat), vF (some (.f g n)) = g) ∧ (∀ (e : List (EV U)) (i : Nat), gN e i = vN e[i]?) ∧ (∀ (g : Nat → Nat → Int) (n : Nat), vN (some (.f g n)) = n) ∧ (∀ (e : List (EV U)) (i : Nat), gNil e i = vU e[i]?) ∧ (∀ (s : U), vU (some (.u s)) = Nil.isNil s) ∧ (∀ s : U, Nil.isNil s = match s with | .memNil | .rmemNil | .takeNil | .giveNil | .turnNil | .keyNil | .keyOfNil | .ropNil | .rkeyNil => true | _ => false) ∧ (∀ (α : Type) (l : List α) (i : Nat) (d : α), l.getD i d = l[i]?.getD d) ∧ (∀ (α : Type) (n : Nat) (a : α) (l : List α), (a :: l).take (n + 1) = a :: l.take n) ∧ (∀ (α : Type) (l : List α), l.take 0 = []) ∧ (∀ (k : IntKind) (x y : Int), binDen .add k x y = k.wrap (x + y)) ∧ (∀ (k : IntKind) (x y : Int), binDen .sub k x y = k.wrap (x - y)) ∧ (∀ (k : IntKind) (x y : Int), binDen .mul k x y = k.wrap (x * y)) ∧ (∀ (k : IntKind) (x y : Int), binDen .quo k x y = k.wrap (x.tdiv y)) ∧ (∀ (k : IntKind) (x y : Int), binDen .rem k x y = x.tmod y) ∧ (∀ (k : IntKind) (x y : Int), binDen .and k x y = bits .and k x y) ∧ (∀ (k : IntKind) (x y : Int), binDen .or k x y = bits .or k x y) ∧ (∀ (k : IntKind) (x y : Int), binDen .xor k x y = bits .xor k x y) ∧ (∀ (k : IntKind) (x y : Int), binDen .andNot k x y = bits .andNot k x y) ∧ (∀ (k : IntKind) (x y : Int), binDen .shl k x y = k.wrap (x * 2 ^ min y.toNat k.bits)) ∧ (∀ (k : IntKind) (x y : Int), binDen .shr k x y = x.fdiv (2 ^ min y.toNat k.bits)) :=
  ⟨fun _ _ _ _ _ => rfl, fun _ _ _ => rfl, fun _ _ _ _ => rfl, fun _ _ => rfl, fun _ _ _ => rfl, fun _ _ _ _ => List.getElem?_cons_succ, fun _ _ _ => rfl, cmp_eql_t, cmp_eql_f, cmp_neq_t, cmp_neq_f, cmp_lss_t, cmp_lss_f, cmp_leq_t, cmp_leq_f, cmp_gtr_t, cmp_gtr_f, cmp_geq_t, cmp_geq_f, fun b => Bool.not_eq_true' b, fun b => Bool.not_eq_false' b, Bool.and_eq_true, fun a b => propext (Bool.and_eq_false_iff), fun _ _ _ => Option.some.injEq _ _, and_self, true_and, and_true, or_false, false_or, or_self, fun _ _ _ => EV.u.injEq _ _, not_true_eq_false, not_false_eq_true, Bool.true_eq_false, Bool.false_eq_true, fun _ _ _ => rfl, fun _ => beq_self_eq_true _, fun _ => beq_self_eq_true _, fun _ _ => rfl, fun _ _ => rfl, fun _ _ _ _ _ => rfl, fun _ _ _ => rfl, fun _ _ => rfl, fun _ _ _ => rfl, fun _ _ _ _ => rfl, fun _ _ => rfl, fun _ _ => rfl, fun _ _ => rfl, fun _ _ _ _ => rfl, fun _ _ _ => rfl, fun _ _ => rfl, fun _ _ _ => rfl, fun _ _ => rfl, fun _ _ _ _ => rfl, fun _ _ _ => rfl, fun _ _ => rfl, fun _ _ => rfl, fun _ _ => rfl, fun e i => by unfold gI; rcases e[i]? with _ | (_ | _ | _ | _ | _ | _) <;> rfl, fun _ => rfl, fun e i => by unfold gB; rcases e[i]? with _ | (_ | _ | _ | _ | _ | _) <;> rfl, fun _ => rfl, fun e i => by unfold gL; rcases e[i]? with _ | (_ | _ | _ | _ | _ | _) <;> rfl, fun _ => rfl, fun e i => by unfold gF; rcases e[i]? with _ | (_ | _ | _ | _ | _ | _) <;> rfl, fun _ _ => rfl, fun e i => by unfold gN; rcases e[i]? with _ | (_ | _ | _ | _ | _ | _) <;> rfl, fun _ _ => rfl, fun e i => by unfold gNil; rcases e[i]? with _ | (_ | _ | _ | _ | _ | _) <;> rfl, fun _ => rfl, fun _ => rfl, fun _ _ _ _ => rfl, fun _ _ _ _ => rfl, fun _ _ => rfl, fun _ _ _ => rfl, fun _ _ _ => rfl, fun _ _ _ => rfl, fun _ _ _ => rfl, fun _ _ _ => rfl, fun _ _ _ => rfl, fun _ _ _ => rfl, fun _ _ _ => rfl, fun _ _ _ => rfl, fun _ _ _ => rfl, fun _ _ _ => rfl⟩
/-- which kind of object is it? -/
def U.kind : U → Nat
  | .bad => 0
  | .mem _ => 1
  | .memNil => 2
  | .memZero => 3
  | .rmem _ => 4
  | .rmemNil => 5
  | .take _ => 6
  | .takeNil => 7
  | .give _ => 8
  | .giveNil => 9
  | .turn _ => 10
  | .turnNil => 11
  | .key _ => 12
  | .keyNil => 13
  | .keyOf _ => 14
  | .keyOfNil => 15
  | .rop _ => 16
  | .ropNil => 17
  | .rkey _ _ => 18
  | .rkeyNil => 19

/-! ### forms -/
def memOk (ps : List (EV U)) : Prop := ∃ l s k a o n h N, ps = [.l l, .i s, .i k, .i a, .i o, .i n, .b h, .i N] ∧ l.length = 4096 ∧ 0 ≤ s ∧ s ≤ 4096
def memObj (ps : List (EV U)) : U :=
  match ps with
  | [.l l, .i s, .i k, .i a, .i o, .i n, .b h, .i N] => .mem ⟨l.take s.toNat, k, a, o, n, h, N⟩
  | _ => .bad
def rmemOk (ps : List (EV U)) : Prop := ∃ l s k a o n h N, ps = [.l l, .i s, .i k, .i a, .i o, .i n, .b h, .i N] ∧ (l.length : Int) = s
def rmemObj (ps : List (EV U)) : U :=
  match ps with
  | [.l l, .i _, .i k, .i a, .i o, .i n, .b h, .i N] => .rmem ⟨l, k, a, o, n, h, N⟩
  | _ => .bad
def isWd (x : Int) : Prop := 0 ≤ x ∧ x < 18446744073709551616
def takAOk (ps : List (EV U)) : Prop := ∃ st ks t ls s, ps = [.i st, .i ks, .i t, .i ls, .i s] ∧ (1 ≤ s ∧ s ≤ 64)
def takAObj (ps : List (EV U)) : U := match ps with | [.i st, .i ks, .i t, .i ls, .i s] => .take ⟨1, [st, ks, t, ls, s], 0, 0, 0, 1, 0, 0, 0, 0, 0, 0⟩ | _ => .bad
def takP1Ok (ps : List (EV U)) : Prop := ∃ st ks t ls s pw pi pj, ps = [.i st, .i ks, .i t, .i ls, .i s, .i pw, .i pi, .i pj] ∧ (1 ≤ s ∧ s ≤ 64 ∧ isWd pw)
def takP1Obj (ps : List (EV U)) : U := match ps with | [.i st, .i ks, .i t, .i ls, .i s, .i pw, .i pi, .i pj] => .take ⟨1, [st, ks, t, ls, s], 0, 0, 0, 1, 0, 0, 0, 0, 0, 0⟩ | _ => .bad
def takP2Ok (ps : List (EV U)) : Prop := ∃ st ks t ls s pw pi pj, ps = [.i st, .i ks, .i t, .i ls, .i s, .i pw, .i pi, .i pj] ∧ (1 ≤ s ∧ s ≤ 64 ∧ isWd pw ∧ pi = idxW s pw ∧ 0 ≤ pi)
def takP2Obj (ps : List (EV U)) : U := match ps with | [.i st, .i ks, .i t, .i ls, .i s, .i pw, .i pi, .i pj] => .take ⟨1, [st, ks, t, ls, s], 0, 0, 0, 2, pw, 0, 0, 0, 0, 0⟩ | _ => .bad
def takP3Ok (ps : List (EV U)) : Prop := ∃ st ks t ls s pw pi pj, ps = [.i st, .i ks, .i t, .i ls, .i s, .i pw, .i pi, .i pj] ∧ (1 ≤ s ∧ s ≤ 64 ∧ isWd pw ∧ pi = idxW s pw ∧ 0 ≤ pi ∧ -1 ≤ pj ∧ pj ≤ 65534)
def takP3Obj (ps : List (EV U)) : U := match ps with | [.i st, .i ks, .i t, .i ls, .i s, .i pw, .i pi, .i pj] => .take ⟨1, [st, ks, t, ls, s], 0, 0, 0, 3, pw, pj, 0, 0, 0, 0⟩ | _ => .bad
def takLOk (ps : List (EV U)) : Prop := ∃ st ks t ls s i w pw pi pj, ps = [.i st, .i ks, .i t, .i ls, .i s, .i i, .i w, .i pw, .i pi, .i pj] ∧ (0 ≤ i ∧ i < s ∧ s ≤ 64 ∧ isWd w)
def takLObj (ps : List (EV U)) : U := match ps with | [.i st, .i ks, .i t, .i ls, .i s, .i i, .i w, .i pw, .i pi, .i pj] => .take ⟨1, [st, ks, t, ls, s], 1, i, 0, 0, 0, 0, 0, 0, 0, 0⟩ | _ => .bad
def takSOk (ps : List (EV U)) : Prop := ∃ st ks t ls s i w pw pi pj, ps = [.i st, .i ks, .i t, .i ls, .i s, .i i, .i w, .i pw, .i pi, .i pj] ∧ (0 ≤ i ∧ i < s ∧ s ≤ 64 ∧ isWd w)
def takSObj (ps : List (EV U)) : U := match ps with | [.i st, .i ks, .i t, .i ls, .i s, .i i, .i w, .i pw, .i pi, .i pj] => .take ⟨1, [st, ks, t, ls, s], 2, i, w, 0, 0, 0, 0, 0, 0, 0⟩ | _ => .bad
def takE1Ok (ps : List (EV U)) : Prop := ∃ st ks t ls s i w e pw pi pj, ps = [.i st, .i ks, .i t, .i ls, .i s, .i i, .i w, .i e, .i pw, .i pi, .i pj] ∧ (e ≠ 0)
def takE1Obj (ps : List (EV U)) : U := match ps with | [.i st, .i ks, .i t, .i ls, .i s, .i i, .i w, .i e, .i pw, .i pi, .i pj] => .take ⟨0, [], 9, 0, 0, 0, 0, 0, 0, 0, 0, e⟩ | _ => .bad
def takE2Ok (ps : List (EV U)) : Prop := ∃ st ks t ls s i w pw pi pj, ps = [.i st, .i ks, .i t, .i ls, .i s, .i i, .i w, .i pw, .i pi, .i pj] ∧ (True)
def takE2Obj (ps : List (EV U)) : U := match ps with | [.i st, .i ks, .i t, .i ls, .i s, .i i, .i w, .i pw, .i pi, .i pj] => .take ⟨0, [], 9, i, 0, 0, 0, 0, 0, 0, 0, 0⟩ | _ => .bad
def givAOk (ps : List (EV U)) : Prop := ∃ st ks t ls s i, ps = [.i st, .i ks, .i t, .i ls, .i s, .i i] ∧ (0 ≤ i ∧ i < s ∧ s ≤ 64)
def givAObj (ps : List (EV U)) : U := match ps with | [.i st, .i ks, .i t, .i ls, .i s, .i i] => .give ⟨2, [st, ks, t, ls, s], 1, i, 0, 0, 0, 0, 0, 0, 0, 0⟩ | _ => .bad
def givLOk (ps : List (EV U)) : Prop := ∃ st ks t ls s i w, ps = [.i st, .i ks, .i t, .i ls, .i s, .i i, .i w] ∧ (0 ≤ i ∧ i < s ∧ s ≤ 64 ∧ isWd w)
def givLObj (ps : List (EV U)) : U := match ps with | [.i st, .i ks, .i t, .i ls, .i s, .i i, .i w] => .give ⟨2, [st, ks, t, ls, s], 1, i, 0, 0, 0, 0, 0, 0, 0, 0⟩ | _ => .bad
def givSOk (ps : List (EV U)) : Prop := ∃ st ks t ls s i w, ps = [.i st, .i ks, .i t, .i ls, .i s, .i i, .i w] ∧ (0 ≤ i ∧ i < s ∧ s ≤ 64 ∧ isWd w)
def givSObj (ps : List (EV U)) : U := match ps with | [.i st, .i ks, .i t, .i ls, .i s, .i i, .i w] => .give ⟨2, [st, ks, t, ls, s], 2, i, w, 0, 0, 0, 0, 0, 0, 0⟩ | _ => .bad
def givP1Ok (ps : List (EV U)) : Prop := ∃ st ks t ls s i w pw pj, ps = [.i st, .i ks, .i t, .i ls, .i s, .i i, .i w, .i pw, .i pj] ∧ (0 ≤ i ∧ i < s ∧ s ≤ 64 ∧ isWd pw)
def givP1Obj (ps : List (EV U)) : U := match ps with | [.i st, .i ks, .i t, .i ls, .i s, .i i, .i w, .i pw, .i pj] => .give ⟨2, [st, ks, t, ls, s], 3, i, 0, 1, 0, 0, 0, 0, 0, 0⟩ | _ => .bad
def givP2Ok (ps : List (EV U)) : Prop := ∃ st ks t ls s i w pw pj, ps = [.i st, .i ks, .i t, .i ls, .i s, .i i, .i w, .i pw, .i pj] ∧ (0 ≤ i ∧ i < s ∧ s ≤ 64 ∧ isWd pw ∧ pj = idxW s pw)
def givP2Obj (ps : List (EV U)) : U := match ps with | [.i st, .i ks, .i t, .i ls, .i s, .i i, .i w, .i pw, .i pj] => .give ⟨2, [st, ks, t, ls, s], 3, i, 0, 2, pw, 0, 0, 0, 0, 0⟩ | _ => .bad
def givP3Ok (ps : List (EV U)) : Prop := ∃ st ks t ls s i w pw pj, ps = [.i st, .i ks, .i t, .i ls, .i s, .i i, .i w, .i pw, .i pj] ∧ (0 ≤ i ∧ i < s ∧ s ≤ 64 ∧ isWd pw)
def givP3Obj (ps : List (EV U)) : U := match ps with | [.i st, .i ks, .i t, .i ls, .i s, .i i, .i w, .i pw, .i pj] => .give ⟨2, [st, ks, t, ls, s], 3, i, 0, 3, pw, 0, 0, 0, 0, 0⟩ | _ => .bad
def givE1Ok (ps : List (EV U)) : Prop := ∃ st ks t ls s i w e, ps = [.i st, .i ks, .i t, .i ls, .i s, .i i, .i w, .i e] ∧ (e ≠ 0)
def givE1Obj (ps : List (EV U)) : U := match ps with | [.i st, .i ks, .i t, .i ls, .i s, .i i, .i w, .i e] => .give ⟨0, [], 9, 0, 0, 0, 0, 0, 0, 0, 0, e⟩ | _ => .bad
def givE2Ok (ps : List (EV U)) : Prop := ∃ st ks t ls s i w pw pj, ps = [.i st, .i ks, .i t, .i ls, .i s, .i i, .i w, .i pw, .i pj] ∧ (True)
def givE2Obj (ps : List (EV U)) : U := match ps with | [.i st, .i ks, .i t, .i ls, .i s, .i i, .i w, .i pw, .i pj] => .give ⟨0, [], 9, i, 0, 0, 0, 0, 0, 0, 0, 0⟩ | _ => .bad
def givROk (ps : List (EV U)) : Prop := ∃ st ks t ls s i e, ps = [.i st, .i ks, .i t, .i ls, .i s, .i i, .i e] ∧ (e ≠ 0)
def givRObj (ps : List (EV U)) : U := match ps with | [.i st, .i ks, .i t, .i ls, .i s, .i i, .i e] => .give ⟨0, [], 9, 0, 0, 0, 0, 0, 0, 0, 0, e⟩ | _ => .bad
def turAOk (ps : List (EV U)) : Prop := ∃ st ks t ls s i fr to co, ps = [.i st, .i ks, .i t, .i ls, .i s, .i i, .i fr, .i to, .i co] ∧ (0 ≤ i ∧ i < s ∧ s ≤ 64 ∧ mayB fr to = true ∧ 0 ≤ co ∧ co < 64)
def turAObj (ps : List (EV U)) : U := match ps with | [.i st, .i ks, .i t, .i ls, .i s, .i i, .i fr, .i to, .i co] => .turn ⟨3, [st, ks, t, ls, s], 1, i, 0, 0, 0, 0, fr, to, co, 0⟩ | _ => .bad
def turLOk (ps : List (EV U)) : Prop := ∃ st ks t ls s i w fr to co, ps = [.i st, .i ks, .i t, .i ls, .i s, .i i, .i w, .i fr, .i to, .i co] ∧ (0 ≤ i ∧ i < s ∧ s ≤ 64 ∧ mayB fr to = true ∧ 0 ≤ co ∧ co < 64 ∧ isWd w)
def turLObj (ps : List (EV U)) : U := match ps with | [.i st, .i ks, .i t, .i ls, .i s, .i i, .i w, .i fr, .i to, .i co] => .turn ⟨3, [st, ks, t, ls, s], 1, i, 0, 0, 0, 0, fr, to, co, 0⟩ | _ => .bad
def turSOk (ps : List (EV U)) : Prop := ∃ st ks t ls s i w fr to co, ps = [.i st, .i ks, .i t, .i ls, .i s, .i i, .i w, .i fr, .i to, .i co] ∧ (0 ≤ i ∧ i < s ∧ s ≤ 64 ∧ mayB fr to = true ∧ 0 ≤ co ∧ co < 64 ∧ isWd w)
def turSObj (ps : List (EV U)) : U := match ps with | [.i st, .i ks, .i t, .i ls, .i s, .i i, .i w, .i fr, .i to, .i co] => .turn ⟨3, [st, ks, t, ls, s], 2, i, w, 0, 0, 0, fr, to, co, 0⟩ | _ => .bad
def turEOk (ps : List (EV U)) : Prop := ∃ st ks t ls s i w e fr to co, ps = [.i st, .i ks, .i t, .i ls, .i s, .i i, .i w, .i e, .i fr, .i to, .i co] ∧ (True)
def turEObj (ps : List (EV U)) : U := match ps with | [.i st, .i ks, .i t, .i ls, .i s, .i i, .i w, .i e, .i fr, .i to, .i co] => .turn ⟨0, [], 9, (if e = 0 then i else 0), 0, 0, 0, 0, 0, 0, 0, e⟩ | _ => .bad
def keyAOk (ps : List (EV U)) : Prop := ∃ st ks t ls s i w, ps = [.i st, .i ks, .i t, .i ls, .i s, .i i, .i w] ∧ (True)
def keyAObj (ps : List (EV U)) : U := match ps with | [.i st, .i ks, .i t, .i ls, .i s, .i i, .i w] => .key ⟨IntKind.i64.wrap (ks + i), w, 1, 0⟩ | _ => .bad
def keyEOk (ps : List (EV U)) : Prop := ∃ st ks t ls s i w e, ps = [.i st, .i ks, .i t, .i ls, .i s, .i i, .i w, .i e] ∧ (True)
def keyEObj (ps : List (EV U)) : U := match ps with | [.i st, .i ks, .i t, .i ls, .i s, .i i, .i w, .i e] => .key ⟨0, 0, 9, e⟩ | _ => .bad
def kofAOk (ps : List (EV U)) : Prop := ∃ st ks t ls s i, ps = [.i st, .i ks, .i t, .i ls, .i s, .i i] ∧ (True)
def kofAObj (ps : List (EV U)) : U := match ps with | [.i st, .i ks, .i t, .i ls, .i s, .i i] => .keyOf ⟨IntKind.i64.wrap (ks + i), 0, 1, 0⟩ | _ => .bad
def kofEOk (ps : List (EV U)) : Prop := ∃ st ks t ls s i w e, ps = [.i st, .i ks, .i t, .i ls, .i s, .i i, .i w, .i e] ∧ (e = 0 ∨ w = 0)
def kofEObj (ps : List (EV U)) : U := match ps with | [.i st, .i ks, .i t, .i ls, .i s, .i i, .i w, .i e] => .keyOf ⟨0, w, 9, e⟩ | _ => .bad
def ropTOk (ps : List (EV U)) : Prop := ∃ st ks t ls s line i w e pl pw pi pj, ps = [.i st, .i ks, .i t, .i ls, .i s, .i line, .i i, .i w, .i e, .i pl, .i pw, .i pi, .i pj] ∧ (1 ≤ s ∧ s ≤ 64 ∧ (line = 0 ∧ e = 0 ∧ isWd pw ∧ (pl = 1 ∨ pl = 2 ∧ pi = idxW s pw ∧ 0 ≤ pi ∨ pl = 3 ∧ pi = idxW s pw ∧ 0 ≤ pi ∧ -1 ≤ pj ∧ pj ≤ 65534) ∨ line = 1 ∧ e = 0 ∧ 0 ≤ i ∧ i < s ∨ line = 2 ∧ e = 0 ∧ 0 ≤ i ∧ i < s ∧ isWd w ∨ line = 9))
def ropTObj (ps : List (EV U)) : U := match ps with | [.i st, .i ks, .i t, .i ls, .i s, .i line, .i i, .i w, .i e, .i pl, .i pw, .i pi, .i pj] => .rop ⟨(if line = 9 then 0 else 1), (if line = 9 then [] else [st, ks, t, ls, s]), line, (if line = 0 then 0 else if line = 9 then (if e = 0 then i else 0) else i), (if line = 2 then w else 0), (if line = 0 then pl else 0), (if line = 0 ∧ pl ≠ 1 then pw else 0), (if line = 0 ∧ pl = 3 then pj else 0), 0, 0, 0, (if line = 9 then e else 0)⟩ | _ => .bad
def ropG1Ok (ps : List (EV U)) : Prop := ∃ st ks t ls s line i w e, ps = [.i st, .i ks, .i t, .i ls, .i s, .i line, .i i, .i w, .i e] ∧ (0 ≤ i ∧ i < s ∧ s ≤ 64 ∧ (line = 1 ∧ e = 0 ∨ line = 2 ∧ e = 0 ∧ isWd w ∨ line = 9 ∧ e ≠ 0))
def ropG1Obj (ps : List (EV U)) : U := match ps with | [.i st, .i ks, .i t, .i ls, .i s, .i line, .i i, .i w, .i e] => .rop ⟨(if line = 9 then 0 else 2), (if line = 9 then [] else [st, ks, t, ls, s]), line, (if line = 9 then 0 else i), (if line = 2 then w else 0), 0, 0, 0, 0, 0, 0, (if line = 9 then e else 0)⟩ | _ => .bad
def ropG2Ok (ps : List (EV U)) : Prop := ∃ st ks t ls s line i w e pl pw, ps = [.i st, .i ks, .i t, .i ls, .i s, .i line, .i i, .i w, .i e, .i pl, .i pw] ∧ (0 ≤ i ∧ i < s ∧ s ≤ 64 ∧ e = 0 ∧ isWd pw ∧ (line = 3 ∧ (pl = 1 ∨ pl = 2 ∨ pl = 3) ∨ line = 9))
def ropG2Obj (ps : List (EV U)) : U := match ps with | [.i st, .i ks, .i t, .i ls, .i s, .i line, .i i, .i w, .i e, .i pl, .i pw] => .rop ⟨(if line = 9 then 0 else 2), (if line = 9 then [] else [st, ks, t, ls, s]), line, i, 0, (if line = 3 then pl else 0), (if line = 3 ∧ pl ≠ 1 then pw else 0), 0, 0, 0, 0, 0⟩ | _ => .bad
def ropUOk (ps : List (EV U)) : Prop := ∃ st ks t ls s line i w fr to co e, ps = [.i st, .i ks, .i t, .i ls, .i s, .i line, .i i, .i w, .i fr, .i to, .i co, .i e] ∧ (0 ≤ i ∧ i < s ∧ s ≤ 64 ∧ mayB fr to = true ∧ 0 ≤ co ∧ co < 64 ∧ (line = 1 ∧ e = 0 ∨ line = 2 ∧ e = 0 ∧ isWd w ∨ line = 9))
def ropUObj (ps : List (EV U)) : U := match ps with | [.i st, .i ks, .i t, .i ls, .i s, .i line, .i i, .i w, .i fr, .i to, .i co, .i e] => .rop ⟨(if line = 9 then 0 else 3), (if line = 9 then [] else [st, ks, t, ls, s]), line, (if line = 9 then (if e = 0 then i else 0) else i), (if line = 2 then w else 0), 0, 0, 0, (if line = 9 then 0 else fr), (if line = 9 then 0 else to), (if line = 9 then 0 else co), (if line = 9 then e else 0)⟩ | _ => .bad
def ropNOk (ps : List (EV U)) : Prop := ∃ e, ps = [.i e] ∧ (e ≠ 0)
def ropNObj (ps : List (EV U)) : U := match ps with | [.i e] => .rop ⟨0, [], 9, 0, 0, 0, 0, 0, 0, 0, 0, e⟩ | _ => .bad
def rkeySOk (ps : List (EV U)) : Prop := ∃ at_ w line e, ps = [.i at_, .i w, .i line, .i e] ∧ ((line = 1 ∧ e = 0 ∨ line = 9))
def rkeySObj (ps : List (EV U)) : U := match ps with | [.i at_, .i w, .i line, .i e] => .rkey false ⟨(if line = 9 then 0 else at_), (if line = 9 then 0 else w), line, e⟩ | _ => .bad
def rkeyLOk (ps : List (EV U)) : Prop := ∃ at_ w line e, ps = [.i at_, .i w, .i line, .i e] ∧ ((line = 1 ∧ e = 0 ∧ w = 0 ∨ line = 9 ∧ (e = 0 ∨ w = 0)))
def rkeyLObj (ps : List (EV U)) : U := match ps with | [.i at_, .i w, .i line, .i e] => .rkey true ⟨(if line = 9 then 0 else at_), w, line, e⟩ | _ => .bad
end Go.Proofs.YtdabdbbgaekmdaaGreat
