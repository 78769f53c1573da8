/- The states of objects, as plain data: memories; what accesses do to them. No program is named here. -/
import Derived.Test.YtdabdbbgaekmdaaGreatSrO
import Derived.Test.YtdabdbbgaekmdaaGreatProg
import Derived.KernelRfl
namespace Go.Proofs.YtdabdbbgaekmdaaGreat
set_option linter.unusedVariables false
set_option linter.unusedSimpArgs false
set_option linter.unusedSectionVars false
open Go
theorem cmp_eql_t (x y : Int) : (cmpDen .eql x y = true) = (x = y) := by simp [cmpDen]
theorem cmp_eql_f (x y : Int) : (cmpDen .eql x y = false) = (x ≠ y) := by simp [cmpDen]
theorem cmp_neq_t (x y : Int) : (cmpDen .neq x y = true) = (x ≠ y) := by simp [cmpDen]
theorem cmp_neq_f (x y : Int) : (cmpDen .neq x y = false) = (x = y) := by simp [cmpDen]
theorem cmp_lss_t (x y : Int) : (cmpDen .lss x y = true) = (x < y) := by simp [cmpDen]
theorem cmp_lss_f (x y : Int) : (cmpDen .lss x y = false) = (y ≤ x) := by simp [cmpDen]
theorem cmp_leq_t (x y : Int) : (cmpDen .leq x y = true) = (x ≤ y) := by simp [cmpDen]
theorem cmp_leq_f (x y : Int) : (cmpDen .leq x y = false) = (y < x) := by simp [cmpDen]
theorem cmp_gtr_t (x y : Int) : (cmpDen .gtr x y = true) = (y < x) := by simp [cmpDen]
theorem cmp_gtr_f (x y : Int) : (cmpDen .gtr x y = false) = (x ≤ y) := by simp [cmpDen]
theorem cmp_geq_t (x y : Int) : (cmpDen .geq x y = true) = (y ≤ x) := by simp [cmpDen]
theorem cmp_geq_f (x y : Int) : (cmpDen .geq x y = false) = (x < y) := by simp [cmpDen]
/-- a memory: its words, its last access, how many there were -/
structure MemSt where
  W : List Int
  k : Int
  a : Int
  o : Int
  n : Int
  h : Bool
  N : Int
namespace MemSt
def is (M : MemSt) (at_ : Int) : Bool := decide (0 ≤ at_ ∧ at_ < M.W.length)
def word (M : MemSt) (at_ : Int) : Int := M.W.getD at_.toNat 0
/-- an access: what is there then, is it written? -/
def acc (M : MemSt) (kind at_ w : Int) (held : Bool) : MemSt :=
  if M.is at_ then ⟨M.W.set at_.toNat w, kind, at_, M.word at_, w, held, IntKind.i64.wrap (M.N + 1)⟩
  else ⟨M.W, kind, at_, 0, 0, false, IntKind.i64.wrap (M.N + 1)⟩
def load (M : MemSt) (at_ : Int) : MemSt := M.acc 1 at_ (M.word at_) false
def store (M : MemSt) (at_ w : Int) : MemSt := M.acc 2 at_ w true
def cas (M : MemSt) (at_ x y : Int) : MemSt := if M.word at_ = x then M.acc 3 at_ y true else M.acc 3 at_ (M.word at_) false
def add (M : MemSt) (at_ x : Int) : MemSt := M.acc 4 at_ (IntKind.u64.wrap (M.word at_ + x)) true
def new (n : Int) : MemSt := ⟨List.replicate n.toNat 0, 0, 0, 0, 0, false, 0⟩
end MemSt
/-- an operation of a job: its kind (1: Take, 2: Give, 3: Turn; 0: it has ended), the jobs (5 numbers), its line (0: the pop, 1: the load, 2: the swap, 3: the push, 9: it has ended), the job, the word that it loaded; the line, the word and the next one of its pop or push; from, to, core; what it came to -/
structure OpSt where
  k : Int
  l : List Int
  line : Int
  i : Int
  w : Int
  pl : Int
  pw : Int
  pj : Int
  fr : Int
  to : Int
  co : Int
  err : Int
/-- a Key or a KeyOf: its cell, its word, its line (1, 9), what it came to -/
structure KeySt where
  at_ : Int
  w : Int
  line : Int
  err : Int
/-- a word read as an index -/
def idxW (size w : Int) : Int := if w % 65536 - 1 ≥ size then -1 else w % 65536 - 1
/-- may a state turn so? -/
def mayB (fr to : Int) : Bool := decide (fr = 2 ∧ to = 3 ∨ fr = 3 ∧ (to = 2 ∨ to = 4) ∨ fr = 4 ∧ (to = 3 ∨ to = 5))
/-- the objects of this proof -/
inductive U where
  | bad
  | mem (M : MemSt)
  | memNil
  | memZero
  | rmem (M : MemSt)
  | rmemNil
  | take (O : OpSt)
  | takeNil
  | give (O : OpSt)
  | giveNil
  | turn (O : OpSt)
  | turnNil
  | key (K : KeySt)
  | keyNil
  | keyOf (K : KeySt)
  | keyOfNil
  | rop (O : OpSt)
  | ropNil
  | rkey (ld : Bool) (K : KeySt)
  | rkeyNil
instance : Nil U := ⟨fun s => match s with | .memNil | .rmemNil | .takeNil | .giveNil | .turnNil | .keyNil | .keyOfNil | .ropNil | .rkeyNil => true | _ => false⟩
def vI : Option (EV U) → Int | some (.i n) => n | _ => 0
def vB : Option (EV U) → Bool | some (.b x) => x | _ => false
def vL : Option (EV U) → List Int | some (.l x) => x | _ => []
def vF : Option (EV U) → Nat → Nat → Int | some (.f g _) => g | _ => fun _ _ => 0
def vN : Option (EV U) → Nat | some (.f _ n) => n | _ => 0
def vU : Option (EV U) → Bool | some (.u s) => Nil.isNil s | _ => false
/-- rules of a walk, in one -/
theorem dn : (∀ (α β : Type) (f : α → β) (a : α) (l : List α), (a :: l).map f = f a :: l.map f) ∧ (∀ (α β : Type) (f : α → β), ([] : List α).map f = []) ∧ (∀ (α : Type) (a : α) (l m : List α), a :: l ++ m = a :: (l ++ m)) ∧ (∀ (α : Type) (l : List α), [] ++ l = l) ∧ (∀ (α : Type) (a : α) (l : List α), (a :: l)[0]? = some a) ∧ (∀ (α : Type) (a : α) (l : List α) (i : Nat), (a :: l)[i + 1]? = l[i]?) ∧ (∀ (α : Type) (a b : α), (some a).getD b = a) ∧ (∀ x y : Int, (cmpDen .eql x y = true) = (x = y)) ∧ (∀ x y : Int, (cmpDen .eql x y = false) = (x ≠ y)) ∧ (∀ x y : Int, (cmpDen .neq x y = true) = (x ≠ y)) ∧ (∀ x y : Int, (cmpDen .neq x y = false) = (x = y)) ∧ (∀ x y : Int, (cmpDen .lss x y = true) = (x < y)) ∧ (∀ x y : Int, (cmpDen .lss x y = false) = (y ≤ x)) ∧ (∀ x y : Int, (cmpDen .leq x y = true) = (x ≤ y)) ∧ (∀ x y : Int, (cmpDen .leq x y = false) = (y < x)) ∧ (∀ x y : Int, (cmpDen .gtr x y = true) = (y < x)) ∧ (∀ x y : Int, (cmpDen .gtr x y = false) = (x ≤ y)) ∧ (∀ x y : Int, (cmpDen .geq x y = true) = (y ≤ x)) ∧ (∀ x y : Int, (cmpDen .geq x y = false) = (x < y)) ∧ (∀ b : Bool, ((!b) = true) = (b = false)) ∧ (∀ b : Bool, ((!b) = false) = (b = true)) ∧ (∀ a b : Bool, ((a && b) = true) = (a = true ∧ b = true)) ∧ (∀ a b : Bool, ((a && b) = false) = (a = false ∨ b = false)) ∧ (∀ (α : Type) (a b : α), (some a = some b) = (a = b)) ∧ (∀ p : Prop, (p ∧ p) = p) ∧ (∀ p : Prop, (True ∧ p) = p) ∧ (∀ p : Prop, (p ∧ True) = p) ∧ (∀ p : Prop, (p ∨ False) = p) ∧ (∀ p : Prop, (False ∨ p) = p) ∧ (∀ p : Prop, (p ∨ p) = p) ∧ (∀ (V : Type) (a b : V), (EV.u a = EV.u b) = (a = b)) ∧ ((¬ True) = False) ∧ ((¬ False) = True) ∧ ((true = false) = False) ∧ ((false = true) = False) ∧ (∀ (α : Type) (a b : α), (a ≠ b) = ¬ a = b) ∧ (∀ a : Int, (a == a) = true) ∧ (∀ a : Bool, (a == a) = true) ∧ (∀ (e : List (EV U)) (n : Int), Ex.den e (.lit n) = n) ∧ (∀ (e : List (EV U)) (i : Nat), Ex.den e (.var i) = gI e i) ∧ (∀ (e : List (EV U)) (o : BinOp) (k : IntKind) (a b : Ex), Ex.den e (.bin o k a b) = binDen o k (a.den e) (b.den e)) ∧ (∀ (e : List (EV U)) (k : IntKind) (a : Ex), Ex.den e (.conv k a) = k.wrap (a.den e)) ∧ (∀ (e : List (EV U)) (i : Nat), Ex.den e (.len i) = ((gL e i).length : Int)) ∧ (∀ (e : List (EV U)) (i : Nat) (a : Ex), Ex.den e (.nth i a) = (gL e i).getD (a.den e).toNat 0) ∧ (∀ (e : List (EV U)) (i : Nat) (a : Ex) (c : Nat), Ex.den e (.fld i a c) = gF e i (a.den e).toNat c) ∧ (∀ (e : List (EV U)) (i : Nat), Ex.den e (.nrow i) = (gN e i : Int)) ∧ (∀ (e : List (EV U)) (b : Bool), Bx.den e (.lit b) = b) ∧ (∀ (e : List (EV U)) (i : Nat), Bx.den e (.var i) = gB e i) ∧ (∀ (e : List (EV U)) (o : BinOp) (a b : Ex), Bx.den e (.cmp o a b) = cmpDen o (a.den e) (b.den e)) ∧ (∀ (e : List (EV U)) (a b : Bx), Bx.den e (.beq a b) = (a.den e == b.den e)) ∧ (∀ (e : List (EV U)) (a : Bx), Bx.den e (.not a) = (!a.den e)) ∧ (∀ (e : List (EV U)) (a b : Bx), Bx.den e (.and a b) = (a.den e && b.den e)) ∧ (∀ (e : List (EV U)) (i : Nat), Bx.den e (.isnil i) = gNil e i) ∧ (∀ (e : List (EV U)) (i : Nat) (a : Ex) (c : Nat), Bx.den e (.fld i a c) = (gF e i (a.den e).toNat c != 0)) ∧ (∀ (e : List (EV U)) (i : Nat) (a : Ex), Bx.den e (.mem i a) = decide (a.den e ∈ gL e i)) ∧ (∀ (e : List (EV U)) (a : Ex), Bnd.den e (.ex a) = .i (a.den e)) ∧ (∀ (e : List (EV U)) (b : Bx), Bnd.den e (.bx b) = .b (b.den e)) ∧ (∀ (e : List (EV U)) (i : Nat), Bnd.den e (.var i) = e.getD i (.i 0)) ∧ (∀ (e : List (EV U)) (i : Nat), gI e i = vI e[i]?) ∧ (∀ (n : Int), vI (some (.i n)) = n) ∧ (∀ (e : List (EV U)) (i : Nat), gB e i = vB e[i]?) ∧ (∀ (x : Bool), vB (some (.b x)) = x) ∧ (∀ (e : List (EV U)) (i : Nat), gL e i = vL e[i]?) ∧ (∀ (x : List Int), vL (some (.l x)) = x) ∧ (∀ (e : List (EV U)) (i : Nat), gF e i = vF e[i]?) ∧ (∀ (g : Nat → Nat → Int) (n : Nat), vF (some (.f g n)) = g) ∧ (∀ (e : List (EV U)) (i : Nat), gN e i = vN e[i]?) ∧ (∀ (g : Nat → Nat → Int) (n : Nat), vN (some (.f g n)) = n) ∧ (∀ (e : List (EV U)) (i : Nat), gNil e i = vU e[i]?) ∧ (∀ (s : U), vU (some (.u s)) = Nil.isNil s) ∧ (∀ s : U, Nil.isNil s = match s with | .memNil | .rmemNil | .takeNil | .giveNil | .turnNil | .keyNil | .keyOfNil | .ropNil | .rkeyNil => true | _ => false) ∧ (∀ (α : Type) (l : List α) (i : Nat) (d : α), l.getD i d = l[i]?.getD d) ∧ (∀ (α : Type) (n : Nat) (a : α) (l : List α), (a :: l).take (n + 1) = a :: l.take n) ∧ (∀ (α : Type) (l : List α), l.take 0 = []) ∧ (∀ (k : IntKind) (x y : Int), binDen .add k x y = k.wrap (x + y)) ∧ (∀ (k : IntKind) (x y : Int), binDen .sub k x y = k.wrap (x - y)) ∧ (∀ (k : IntKind) (x y : Int), binDen .mul k x y = k.wrap (x * y)) ∧ (∀ (k : IntKind) (x y : Int), binDen .quo k x y = k.wrap (x.tdiv y)) ∧ (∀ (k : IntKind) (x y : Int), binDen .rem k x y = x.tmod y) ∧ (∀ (k : IntKind) (x y : Int), binDen .and k x y = bits .and k x y) ∧ (∀ (k : IntKind) (x y : Int), binDen .or k x y = bits .or k x y) ∧ (∀ (k : IntKind) (x y : Int), binDen .xor k x y = bits .xor k x y) ∧ (∀ (k : IntKind) (x y : Int), binDen .andNot k x y = bits .andNot k x y) ∧ (∀ (k : IntKind) (x y : Int), binDen .shl k x y = k.wrap (x * 2 ^ min y.toNat k.bits)) ∧ (∀ (k : IntKind) (x y : Int), binDen .shr k x y = x.fdiv (2 ^ min y.toNat k.bits)) :=
  ⟨fun _ _ _ _ _ => rfl, fun _ _ _ => rfl, fun _ _ _ _ => rfl, fun _ _ => rfl, fun _ _ _ => rfl, fun _ _ _ _ => List.getElem?_cons_succ, fun _ _ _ => rfl, cmp_eql_t, cmp_eql_f, cmp_neq_t, cmp_neq_f, cmp_lss_t, cmp_lss_f, cmp_leq_t, cmp_leq_f, cmp_gtr_t, cmp_gtr_f, cmp_geq_t, cmp_geq_f, fun b => Bool.not_eq_true' b, fun b => Bool.not_eq_false' b, Bool.and_eq_true, fun a b => propext (Bool.and_eq_false_iff), fun _ _ _ => Option.some.injEq _ _, and_self, true_and, and_true, or_false, false_or, or_self, fun _ _ _ => EV.u.injEq _ _, not_true_eq_false, not_false_eq_true, Bool.true_eq_false, Bool.false_eq_true, fun _ _ _ => rfl, fun _ => beq_self_eq_true _, fun _ => beq_self_eq_true _, fun _ _ => rfl, fun _ _ => rfl, fun _ _ _ _ _ => rfl, fun _ _ _ => rfl, fun _ _ => rfl, fun _ _ _ => rfl, fun _ _ _ _ => rfl, fun _ _ => rfl, fun _ _ => rfl, fun _ _ => rfl, fun _ _ _ _ => rfl, fun _ _ _ => rfl, fun _ _ => rfl, fun _ _ _ => rfl, fun _ _ => rfl, fun _ _ _ _ => rfl, fun _ _ _ => rfl, fun _ _ => rfl, fun _ _ => rfl, fun _ _ => rfl, fun e i => by unfold gI; rcases e[i]? with _ | (_ | _ | _ | _ | _ | _) <;> rfl, fun _ => rfl, fun e i => by unfold gB; rcases e[i]? with _ | (_ | _ | _ | _ | _ | _) <;> rfl, fun _ => rfl, fun e i => by unfold gL; rcases e[i]? with _ | (_ | _ | _ | _ | _ | _) <;> rfl, fun _ => rfl, fun e i => by unfold gF; rcases e[i]? with _ | (_ | _ | _ | _ | _ | _) <;> rfl, fun _ _ => rfl, fun e i => by unfold gN; rcases e[i]? with _ | (_ | _ | _ | _ | _ | _) <;> rfl, fun _ _ => rfl, fun e i => by unfold gNil; rcases e[i]? with _ | (_ | _ | _ | _ | _ | _) <;> rfl, fun _ => rfl, fun _ => rfl, fun _ _ _ _ => rfl, fun _ _ _ _ => rfl, fun _ _ => rfl, fun _ _ _ => rfl, fun _ _ _ => rfl, fun _ _ _ => rfl, fun _ _ _ => rfl, fun _ _ _ => rfl, fun _ _ _ => rfl, fun _ _ _ => rfl, fun _ _ _ => rfl, fun _ _ _ => rfl, fun _ _ _ => rfl, fun _ _ _ => rfl⟩
/-- which kind of object is it? -/
def U.kind : U → Nat
  | .bad => 0
  | .mem _ => 1
  | .memNil => 2
  | .memZero => 3
  | .rmem _ => 4
  | .rmemNil => 5
  | .take _ => 6
  | .takeNil => 7
  | .give _ => 8
  | .giveNil => 9
  | .turn _ => 10
  | .turnNil => 11
  | .key _ => 12
  | .keyNil => 13
  | .keyOf _ => 14
  | .keyOfNil => 15
  | .rop _ => 16
  | .ropNil => 17
  | .rkey _ _ => 18
  | .rkeyNil => 19
def memOk (ps : List (EV U)) : Prop := ∃ l s k a o n h N, ps = [.l l, .i s, .i k, .i a, .i o, .i n, .b h, .i N] ∧ l.length = 4096 ∧ 0 ≤ s ∧ s ≤ 4096
def memObj (ps : List (EV U)) : U :=
  match ps with
  | [.l l, .i s, .i k, .i a, .i o, .i n, .b h, .i N] => .mem ⟨l.take s.toNat, k, a, o, n, h, N⟩
  | _ => .bad
def rmemOk (ps : List (EV U)) : Prop := ∃ l s k a o n h N, ps = [.l l, .i s, .i k, .i a, .i o, .i n, .b h, .i N] ∧ (l.length : Int) = s
def rmemObj (ps : List (EV U)) : U :=
  match ps with
  | [.l l, .i _, .i k, .i a, .i o, .i n, .b h, .i N] => .rmem ⟨l, k, a, o, n, h, N⟩
  | _ => .bad
def isWd (x : Int) : Prop := 0 ≤ x ∧ x < 18446744073709551616
def takAOk (ps : List (EV U)) : Prop := ∃ st ks t ls s, ps = [.i st, .i ks, .i t, .i ls, .i s] ∧ (1 ≤ s ∧ s ≤ 64)
def takAObj (ps : List (EV U)) : U := match ps with | [.i st, .i ks, .i t, .i ls, .i s] => .take ⟨1, [st, ks, t, ls, s], 0, 0, 0, 1, 0, 0, 0, 0, 0, 0⟩ | _ => .bad
def takP1Ok (ps : List (EV U)) : Prop := ∃ st ks t ls s pw pi pj, ps = [.i st, .i ks, .i t, .i ls, .i s, .i pw, .i pi, .i pj] ∧ (1 ≤ s ∧ s ≤ 64 ∧ isWd pw)
def takP1Obj (ps : List (EV U)) : U := match ps with | [.i st, .i ks, .i t, .i ls, .i s, .i pw, .i pi, .i pj] => .take ⟨1, [st, ks, t, ls, s], 0, 0, 0, 1, 0, 0, 0, 0, 0, 0⟩ | _ => .bad
def takP2Ok (ps : List (EV U)) : Prop := ∃ st ks t ls s pw pi pj, ps = [.i st, .i ks, .i t, .i ls, .i s, .i pw, .i pi, .i pj] ∧ (1 ≤ s ∧ s ≤ 64 ∧ isWd pw ∧ pi = idxW s pw ∧ 0 ≤ pi)
def takP2Obj (ps : List (EV U)) : U := match ps with | [.i st, .i ks, .i t, .i ls, .i s, .i pw, .i pi, .i pj] => .take ⟨1, [st, ks, t, ls, s], 0, 0, 0, 2, pw, 0, 0, 0, 0, 0⟩ | _ => .bad
def takP3Ok (ps : List (EV U)) : Prop := ∃ st ks t ls s pw pi pj, ps = [.i st, .i ks, .i t, .i ls, .i s, .i pw, .i pi, .i pj] ∧ (1 ≤ s ∧ s ≤ 64 ∧ isWd pw ∧ pi = idxW s pw ∧ 0 ≤ pi ∧ -1 ≤ pj ∧ pj ≤ 65534)
def takP3Obj (ps : List (EV U)) : U := match ps with | [.i st, .i ks, .i t, .i ls, .i s, .i pw, .i pi, .i pj] => .take ⟨1, [st, ks, t, ls, s], 0, 0, 0, 3, pw, pj, 0, 0, 0, 0⟩ | _ => .bad
def takLOk (ps : List (EV U)) : Prop := ∃ st ks t ls s i w pw pi pj, ps = [.i st, .i ks, .i t, .i ls, .i s, .i i, .i w, .i pw, .i pi, .i pj] ∧ (0 ≤ i ∧ i < s ∧ s ≤ 64 ∧ isWd w)
def takLObj (ps : List (EV U)) : U := match ps with | [.i st, .i ks, .i t, .i ls, .i s, .i i, .i w, .i pw, .i pi, .i pj] => .take ⟨1, [st, ks, t, ls, s], 1, i, 0, 0, 0, 0, 0, 0, 0, 0⟩ | _ => .bad
def takSOk (ps : List (EV U)) : Prop := ∃ st ks t ls s i w pw pi pj, ps = [.i st, .i ks, .i t, .i ls, .i s, .i i, .i w, .i pw, .i pi, .i pj] ∧ (0 ≤ i ∧ i < s ∧ s ≤ 64 ∧ isWd w)
def takSObj (ps : List (EV U)) : U := match ps with | [.i st, .i ks, .i t, .i ls, .i s, .i i, .i w, .i pw, .i pi, .i pj] => .take ⟨1, [st, ks, t, ls, s], 2, i, w, 0, 0, 0, 0, 0, 0, 0⟩ | _ => .bad
def takE1Ok (ps : List (EV U)) : Prop := ∃ st ks t ls s i w e pw pi pj, ps = [.i st, .i ks, .i t, .i ls, .i s, .i i, .i w, .i e, .i pw, .i pi, .i pj] ∧ (e ≠ 0)
def takE1Obj (ps : List (EV U)) : U := match ps with | [.i st, .i ks, .i t, .i ls, .i s, .i i, .i w, .i e, .i pw, .i pi, .i pj] => .take ⟨0, [], 9, 0, 0, 0, 0, 0, 0, 0, 0, e⟩ | _ => .bad
def takE2Ok (ps : List (EV U)) : Prop := ∃ st ks t ls s i w pw pi pj, ps = [.i st, .i ks, .i t, .i ls, .i s, .i i, .i w, .i pw, .i pi, .i pj] ∧ (True)
def takE2Obj (ps : List (EV U)) : U := match ps with | [.i st, .i ks, .i t, .i ls, .i s, .i i, .i w, .i pw, .i pi, .i pj] => .take ⟨0, [], 9, i, 0, 0, 0, 0, 0, 0, 0, 0⟩ | _ => .bad
def givAOk (ps : List (EV U)) : Prop := ∃ st ks t ls s i, ps = [.i st, .i ks, .i t, .i ls, .i s, .i i] ∧ (0 ≤ i ∧ i < s ∧ s ≤ 64)
def givAObj (ps : List (EV U)) : U := match ps with | [.i st, .i ks, .i t, .i ls, .i s, .i i] => .give ⟨2, [st, ks, t, ls, s], 1, i, 0, 0, 0, 0, 0, 0, 0, 0⟩ | _ => .bad
def givLOk (ps : List (EV U)) : Prop := ∃ st ks t ls s i w, ps = [.i st, .i ks, .i t, .i ls, .i s, .i i, .i w] ∧ (0 ≤ i ∧ i < s ∧ s ≤ 64 ∧ isWd w)
def givLObj (ps : List (EV U)) : U := match ps with | [.i st, .i ks, .i t, .i ls, .i s, .i i, .i w] => .give ⟨2, [st, ks, t, ls, s], 1, i, 0, 0, 0, 0, 0, 0, 0, 0⟩ | _ => .bad
def givSOk (ps : List (EV U)) : Prop := ∃ st ks t ls s i w, ps = [.i st, .i ks, .i t, .i ls, .i s, .i i, .i w] ∧ (0 ≤ i ∧ i < s ∧ s ≤ 64 ∧ isWd w)
def givSObj (ps : List (EV U)) : U := match ps with | [.i st, .i ks, .i t, .i ls, .i s, .i i, .i w] => .give ⟨2, [st, ks, t, ls, s], 2, i, w, 0, 0, 0, 0, 0, 0, 0⟩ | _ => .bad
def givP1Ok (ps : List (EV U)) : Prop := ∃ st ks t ls s i w pw pj, ps = [.i st, .i ks, .i t, .i ls, .i s, .i i, .i w, .i pw, .i pj] ∧ (0 ≤ i ∧ i < s ∧ s ≤ 64 ∧ isWd pw)
def givP1Obj (ps : List (EV U)) : U := match ps with | [.i st, .i ks, .i t, .i ls, .i s, .i i, .i w, .i pw, .i pj] => .give ⟨2, [st, ks, t, ls, s], 3, i, 0, 1, 0, 0, 0, 0, 0, 0⟩ | _ => .bad
def givP2Ok (ps : List (EV U)) : Prop := ∃ st ks t ls s i w pw pj, ps = [.i st, .i ks, .i t, .i ls, .i s, .i i, .i w, .i pw, .i pj] ∧ (0 ≤ i ∧ i < s ∧ s ≤ 64 ∧ isWd pw ∧ pj = idxW s pw)
def givP2Obj (ps : List (EV U)) : U := match ps with | [.i st, .i ks, .i t, .i ls, .i s, .i i, .i w, .i pw, .i pj] => .give ⟨2, [st, ks, t, ls, s], 3, i, 0, 2, pw, 0, 0, 0, 0, 0⟩ | _ => .bad
def givP3Ok (ps : List (EV U)) : Prop := ∃ st ks t ls s i w pw pj, ps = [.i st, .i ks, .i t, .i ls, .i s, .i i, .i w, .i pw, .i pj] ∧ (0 ≤ i ∧ i < s ∧ s ≤ 64 ∧ isWd pw)
def givP3Obj (ps : List (EV U)) : U := match ps with | [.i st, .i ks, .i t, .i ls, .i s, .i i, .i w, .i pw, .i pj] => .give ⟨2, [st, ks, t, ls, s], 3, i, 0, 3, pw, 0, 0, 0, 0, 0⟩ | _ => .bad
def givE1Ok (ps : List (EV U)) : Prop := ∃ st ks t ls s i w e, ps = [.i st, .i ks, .i t, .i ls, .i s, .i i, .i w, .i e] ∧ (e ≠ 0)
def givE1Obj (ps : List (EV U)) : U := match ps with | [.i st, .i ks, .i t, .i ls, .i s, .i i, .i w, .i e] => .give ⟨0, [], 9, 0, 0, 0, 0, 0, 0, 0, 0, e⟩ | _ => .bad
def givE2Ok (ps : List (EV U)) : Prop := ∃ st ks t ls s i w pw pj, ps = [.i st, .i ks, .i t, .i ls, .i s, .i i, .i w, .i pw, .i pj] ∧ (True)
def givE2Obj (ps : List (EV U)) : U := match ps with | [.i st, .i ks, .i t, .i ls, .i s, .i i, .i w, .i pw, .i pj] => .give ⟨0, [], 9, i, 0, 0, 0, 0, 0, 0, 0, 0⟩ | _ => .bad
def givROk (ps : List (EV U)) : Prop := ∃ st ks t ls s i e, ps = [.i st, .i ks, .i t, .i ls, .i s, .i i, .i e] ∧ (e ≠ 0)
def givRObj (ps : List (EV U)) : U := match ps with | [.i st, .i ks, .i t, .i ls, .i s, .i i, .i e] => .give ⟨0, [], 9, 0, 0, 0, 0, 0, 0, 0, 0, e⟩ | _ => .bad
def turAOk (ps : List (EV U)) : Prop := ∃ st ks t ls s i fr to co, ps = [.i st, .i ks, .i t, .i ls, .i s, .i i, .i fr, .i to, .i co] ∧ (0 ≤ i ∧ i < s ∧ s ≤ 64 ∧ mayB fr to = true ∧ 0 ≤ co ∧ co < 64)
def turAObj (ps : List (EV U)) : U := match ps with | [.i st, .i ks, .i t, .i ls, .i s, .i i, .i fr, .i to, .i co] => .turn ⟨3, [st, ks, t, ls, s], 1, i, 0, 0, 0, 0, fr, to, co, 0⟩ | _ => .bad
def turLOk (ps : List (EV U)) : Prop := ∃ st ks t ls s i w fr to co, ps = [.i st, .i ks, .i t, .i ls, .i s, .i i, .i w, .i fr, .i to, .i co] ∧ (0 ≤ i ∧ i < s ∧ s ≤ 64 ∧ mayB fr to = true ∧ 0 ≤ co ∧ co < 64 ∧ isWd w)
def turLObj (ps : List (EV U)) : U := match ps with | [.i st, .i ks, .i t, .i ls, .i s, .i i, .i w, .i fr, .i to, .i co] => .turn ⟨3, [st, ks, t, ls, s], 1, i, 0, 0, 0, 0, fr, to, co, 0⟩ | _ => .bad
def turSOk (ps : List (EV U)) : Prop := ∃ st ks t ls s i w fr to co, ps = [.i st, .i ks, .i t, .i ls, .i s, .i i, .i w, .i fr, .i to, .i co] ∧ (0 ≤ i ∧ i < s ∧ s ≤ 64 ∧ mayB fr to = true ∧ 0 ≤ co ∧ co < 64 ∧ isWd w)
def turSObj (ps : List (EV U)) : U := match ps with | [.i st, .i ks, .i t, .i ls, .i s, .i i, .i w, .i fr, .i to, .i co] => .turn ⟨3, [st, ks, t, ls, s], 2, i, w, 0, 0, 0, fr, to, co, 0⟩ | _ => .bad
def turEOk (ps : List (EV U)) : Prop := ∃ st ks t ls s i w e fr to co, ps = [.i st, .i ks, .i t, .i ls, .i s, .i i, .i w, .i e, .i fr, .i to, .i co] ∧ (True)
def turEObj (ps : List (EV U)) : U := match ps with | [.i st, .i ks, .i t, .i ls, .i s, .i i, .i w, .i e, .i fr, .i to, .i co] => .turn ⟨0, [], 9, (if e = 0 then i else 0), 0, 0, 0, 0, 0, 0, 0, e⟩ | _ => .bad
def keyAOk (ps : List (EV U)) : Prop := ∃ st ks t ls s i w, ps = [.i st, .i ks, .i t, .i ls, .i s, .i i, .i w] ∧ (True)
def keyAObj (ps : List (EV U)) : U := match ps with | [.i st, .i ks, .i t, .i ls, .i s, .i i, .i w] => .key ⟨IntKind.i64.wrap (ks + i), w, 1, 0⟩ | _ => .bad
def keyEOk (ps : List (EV U)) : Prop := ∃ st ks t ls s i w e, ps = [.i st, .i ks, .i t, .i ls, .i s, .i i, .i w, .i e] ∧ (True)
def keyEObj (ps : List (EV U)) : U := match ps with | [.i st, .i ks, .i t, .i ls, .i s, .i i, .i w, .i e] => .key ⟨0, 0, 9, e⟩ | _ => .bad
def kofAOk (ps : List (EV U)) : Prop := ∃ st ks t ls s i, ps = [.i st, .i ks, .i t, .i ls, .i s, .i i] ∧ (True)
def kofAObj (ps : List (EV U)) : U := match ps with | [.i st, .i ks, .i t, .i ls, .i s, .i i] => .keyOf ⟨IntKind.i64.wrap (ks + i), 0, 1, 0⟩ | _ => .bad
def kofEOk (ps : List (EV U)) : Prop := ∃ st ks t ls s i w e, ps = [.i st, .i ks, .i t, .i ls, .i s, .i i, .i w, .i e] ∧ (e = 0 ∨ w = 0)
def kofEObj (ps : List (EV U)) : U := match ps with | [.i st, .i ks, .i t, .i ls, .i s, .i i, .i w, .i e] => .keyOf ⟨0, w, 9, e⟩ | _ => .bad
def ropTOk (ps : List (EV U)) : Prop := ∃ st ks t ls s line i w e pl pw pi pj, ps = [.i st, .i ks, .i t, .i ls, .i s, .i line, .i i, .i w, .i e, .i pl, .i pw, .i pi, .i pj] ∧ (1 ≤ s ∧ s ≤ 64 ∧ (line = 0 ∧ e = 0 ∧ isWd pw ∧ (pl = 1 ∨ pl = 2 ∧ pi = idxW s pw ∧ 0 ≤ pi ∨ pl = 3 ∧ pi = idxW s pw ∧ 0 ≤ pi ∧ -1 ≤ pj ∧ pj ≤ 65534) ∨ line = 1 ∧ e = 0 ∧ 0 ≤ i ∧ i < s ∨ line = 2 ∧ e = 0 ∧ 0 ≤ i ∧ i < s ∧ isWd w ∨ line = 9))
def ropTObj (ps : List (EV U)) : U := match ps with | [.i st, .i ks, .i t, .i ls, .i s, .i line, .i i, .i w, .i e, .i pl, .i pw, .i pi, .i pj] => .rop ⟨(if line = 9 then 0 else 1), (if line = 9 then [] else [st, ks, t, ls, s]), line, (if line = 0 then 0 else if line = 9 then (if e = 0 then i else 0) else i), (if line = 2 then w else 0), (if line = 0 then pl else 0), (if line = 0 ∧ pl ≠ 1 then pw else 0), (if line = 0 ∧ pl = 3 then pj else 0), 0, 0, 0, (if line = 9 then e else 0)⟩ | _ => .bad
def ropG1Ok (ps : List (EV U)) : Prop := ∃ st ks t ls s line i w e, ps = [.i st, .i ks, .i t, .i ls, .i s, .i line, .i i, .i w, .i e] ∧ (0 ≤ i ∧ i < s ∧ s ≤ 64 ∧ (line = 1 ∧ e = 0 ∨ line = 2 ∧ e = 0 ∧ isWd w ∨ line = 9 ∧ e ≠ 0))
def ropG1Obj (ps : List (EV U)) : U := match ps with | [.i st, .i ks, .i t, .i ls, .i s, .i line, .i i, .i w, .i e] => .rop ⟨(if line = 9 then 0 else 2), (if line = 9 then [] else [st, ks, t, ls, s]), line, (if line = 9 then 0 else i), (if line = 2 then w else 0), 0, 0, 0, 0, 0, 0, (if line = 9 then e else 0)⟩ | _ => .bad
def ropG2Ok (ps : List (EV U)) : Prop := ∃ st ks t ls s line i w e pl pw, ps = [.i st, .i ks, .i t, .i ls, .i s, .i line, .i i, .i w, .i e, .i pl, .i pw] ∧ (0 ≤ i ∧ i < s ∧ s ≤ 64 ∧ e = 0 ∧ isWd pw ∧ (line = 3 ∧ (pl = 1 ∨ pl = 2 ∨ pl = 3) ∨ line = 9))
def ropG2Obj (ps : List (EV U)) : U := match ps with | [.i st, .i ks, .i t, .i ls, .i s, .i line, .i i, .i w, .i e, .i pl, .i pw] => .rop ⟨(if line = 9 then 0 else 2), (if line = 9 then [] else [st, ks, t, ls, s]), line, i, 0, (if line = 3 then pl else 0), (if line = 3 ∧ pl ≠ 1 then pw else 0), 0, 0, 0, 0, 0⟩ | _ => .bad
def ropUOk (ps : List (EV U)) : Prop := ∃ st ks t ls s line i w fr to co e, ps = [.i st, .i ks, .i t, .i ls, .i s, .i line, .i i, .i w, .i fr, .i to, .i co, .i e] ∧ (0 ≤ i ∧ i < s ∧ s ≤ 64 ∧ mayB fr to = true ∧ 0 ≤ co ∧ co < 64 ∧ (line = 1 ∧ e = 0 ∨ line = 2 ∧ e = 0 ∧ isWd w ∨ line = 9))
def ropUObj (ps : List (EV U)) : U := match ps with | [.i st, .i ks, .i t, .i ls, .i s, .i line, .i i, .i w, .i fr, .i to, .i co, .i e] => .rop ⟨(if line = 9 then 0 else 3), (if line = 9 then [] else [st, ks, t, ls, s]), line, (if line = 9 then (if e = 0 then i else 0) else i), (if line = 2 then w else 0), 0, 0, 0, (if line = 9 then 0 else fr), (if line = 9 then 0 else to), (if line = 9 then 0 else co), (if line = 9 then e else 0)⟩ | _ => .bad
def ropNOk (ps : List (EV U)) : Prop := ∃ e, ps = [.i e] ∧ (e ≠ 0)
def ropNObj (ps : List (EV U)) : U := match ps with | [.i e] => .rop ⟨0, [], 9, 0, 0, 0, 0, 0, 0, 0, 0, e⟩ | _ => .bad
def rkeySOk (ps : List (EV U)) : Prop := ∃ at_ w line e, ps = [.i at_, .i w, .i line, .i e] ∧ ((line = 1 ∧ e = 0 ∨ line = 9))
def rkeySObj (ps : List (EV U)) : U := match ps with | [.i at_, .i w, .i line, .i e] => .rkey false ⟨(if line = 9 then 0 else at_), (if line = 9 then 0 else w), line, e⟩ | _ => .bad
def rkeyLOk (ps : List (EV U)) : Prop := ∃ at_ w line e, ps = [.i at_, .i w, .i line, .i e] ∧ ((line = 1 ∧ e = 0 ∧ w = 0 ∨ line = 9 ∧ (e = 0 ∨ w = 0)))
def rkeyLObj (ps : List (EV U)) : U := match ps with | [.i at_, .i w, .i line, .i e] => .rkey true ⟨(if line = 9 then 0 else at_), w, line, e⟩ | _ => .bad
end Go.Proofs.YtdabdbbgaekmdaaGreat
namespace Go.Proofs.YtdabdbbgaekmdaaGreat
set_option linter.unusedVariables false
set_option linter.unusedSimpArgs false
set_option linter.unusedSectionVars false
open Go
def memT : ObjT U := { nv := 8, hp := [.cells [.ptr 1 0, .int .i64 (.var 1), .int .i64 (.var 2), .int .i64 (.var 3), .int .u64 (.var 4), .int .u64 (.var 5), .bool (.var 6), .int .i64 (.var 7)] 123, .row .u64 147 0], isNil := false, ok := memOk, obj := memObj }
def memNilT : ObjT U := { nv := 0, hp := [], isNil := true, ok := fun ps => ps = [], obj := fun _ => .memNil }
def memZeroT : ObjT U := { nv := 0, hp := [.cells [.nilp, .int .i64 (.lit 0), .int .i64 (.lit 0), .int .i64 (.lit 0), .int .u64 (.lit 0), .int .u64 (.lit 0), .bool (.lit false), .int .i64 (.lit 0)] 123], isNil := false, ok := fun ps => ps = [], obj := fun _ => .memZero }
def rmemT : ObjT U := { nv := 8, hp := [.cells [.slice 1 (.var 1) (.var 1), .int .i64 (.var 2), .int .i64 (.var 3), .int .u64 (.var 4), .int .u64 (.var 5), .bool (.var 6), .int .i64 (.var 7)] 125, .row .u64 55 0], isNil := false, ok := rmemOk, obj := rmemObj }
def rmemNilT : ObjT U := { nv := 0, hp := [], isNil := true, ok := fun ps => ps = [], obj := fun _ => .rmemNil }
def takA : ObjT U := { nv := 5, hp := [.cells [.int .i64 (.var 0), .int .i64 (.var 1), .int .i64 (.var 2), .int .i64 (.var 3), .int .i64 (.var 4), .int .i64 (.lit 0), .int .u64 (.lit 0), .func (.func 93) [.ptr 0 0] [], .nilf, .bool (.lit true), .int .i64 (.lit 0), .ptr 1 0] 152, .cells [.int .i64 (.var 2), .int .i64 (.var 3), .int .i64 (.var 4), .int .u64 (.lit 0), .int .i64 (.lit 0), .int .i64 (.lit 0), .bool (.lit true), .bool (.lit false), .int .i64 (.lit 0), .func (.func 128) [] []] 192], isNil := false, ok := takAOk, obj := takAObj }
def takP1 : ObjT U := { nv := 8, hp := [.cells [.int .i64 (.var 0), .int .i64 (.var 1), .int .i64 (.var 2), .int .i64 (.var 3), .int .i64 (.var 4), .int .i64 (.lit 0), .int .u64 (.lit 0), .func (.func 93) [.ptr 0 0] [], .func (.func 93) [.ptr 0 0] [], .bool (.lit true), .int .i64 (.lit 0), .ptr 1 0] 152, .cells [.int .i64 (.var 2), .int .i64 (.var 3), .int .i64 (.var 4), .int .u64 (.var 5), .int .i64 (.var 6), .int .i64 (.var 7), .bool (.lit true), .bool (.lit false), .int .i64 (.lit 0), .func (.func 128) [] []] 192], isNil := false, ok := takP1Ok, obj := takP1Obj }
def takP2 : ObjT U := { nv := 8, hp := [.cells [.int .i64 (.var 0), .int .i64 (.var 1), .int .i64 (.var 2), .int .i64 (.var 3), .int .i64 (.var 4), .int .i64 (.lit 0), .int .u64 (.lit 0), .func (.func 93) [.ptr 0 0] [], .func (.func 93) [.ptr 0 0] [], .bool (.lit true), .int .i64 (.lit 0), .ptr 1 0] 152, .cells [.int .i64 (.var 2), .int .i64 (.var 3), .int .i64 (.var 4), .int .u64 (.var 5), .int .i64 (.var 6), .int .i64 (.var 7), .bool (.lit true), .bool (.lit false), .int .i64 (.lit 0), .func (.func 143) [] []] 192], isNil := false, ok := takP2Ok, obj := takP2Obj }
def takP3 : ObjT U := { nv := 8, hp := [.cells [.int .i64 (.var 0), .int .i64 (.var 1), .int .i64 (.var 2), .int .i64 (.var 3), .int .i64 (.var 4), .int .i64 (.lit 0), .int .u64 (.lit 0), .func (.func 93) [.ptr 0 0] [], .func (.func 93) [.ptr 0 0] [], .bool (.lit true), .int .i64 (.lit 0), .ptr 1 0] 152, .cells [.int .i64 (.var 2), .int .i64 (.var 3), .int .i64 (.var 4), .int .u64 (.var 5), .int .i64 (.var 6), .int .i64 (.var 7), .bool (.lit true), .bool (.lit false), .int .i64 (.lit 0), .func (.func 154) [] []] 192], isNil := false, ok := takP3Ok, obj := takP3Obj }
def takL : ObjT U := { nv := 10, hp := [.cells [.int .i64 (.var 0), .int .i64 (.var 1), .int .i64 (.var 2), .int .i64 (.var 3), .int .i64 (.var 4), .int .i64 (.var 5), .int .u64 (.var 6), .func (.func 131) [.ptr 0 0] [], .func (.func 131) [.ptr 0 0] [], .bool (.lit true), .int .i64 (.lit 0), .ptr 1 0] 152, .cells [.int .i64 (.var 2), .int .i64 (.var 3), .int .i64 (.var 4), .int .u64 (.var 7), .int .i64 (.var 8), .int .i64 (.var 9), .bool (.lit true), .bool (.lit true), .int .i64 (.lit 0), .func (.func 128) [] []] 192], isNil := false, ok := takLOk, obj := takLObj }
def takS : ObjT U := { nv := 10, hp := [.cells [.int .i64 (.var 0), .int .i64 (.var 1), .int .i64 (.var 2), .int .i64 (.var 3), .int .i64 (.var 4), .int .i64 (.var 5), .int .u64 (.var 6), .func (.func 146) [.ptr 0 0] [], .func (.func 146) [.ptr 0 0] [], .bool (.lit true), .int .i64 (.lit 0), .ptr 1 0] 152, .cells [.int .i64 (.var 2), .int .i64 (.var 3), .int .i64 (.var 4), .int .u64 (.var 7), .int .i64 (.var 8), .int .i64 (.var 9), .bool (.lit true), .bool (.lit true), .int .i64 (.lit 0), .func (.func 128) [] []] 192], isNil := false, ok := takSOk, obj := takSObj }
def takE1 : ObjT U := { nv := 11, hp := [.cells [.int .i64 (.var 0), .int .i64 (.var 1), .int .i64 (.var 2), .int .i64 (.var 3), .int .i64 (.var 4), .int .i64 (.var 5), .int .u64 (.var 6), .nilf, .nilf, .bool (.lit true), .int .i64 (.var 7), .ptr 1 0] 152, .cells [.int .i64 (.var 2), .int .i64 (.var 3), .int .i64 (.var 4), .int .u64 (.var 8), .int .i64 (.var 9), .int .i64 (.var 10), .bool (.lit true), .bool (.lit true), .int .i64 (.lit 15), .func (.func 143) [] []] 192], isNil := false, ok := takE1Ok, obj := takE1Obj }
def takE2 : ObjT U := { nv := 10, hp := [.cells [.int .i64 (.var 0), .int .i64 (.var 1), .int .i64 (.var 2), .int .i64 (.var 3), .int .i64 (.var 4), .int .i64 (.var 5), .int .u64 (.var 6), .nilf, .nilf, .bool (.lit true), .int .i64 (.lit 0), .ptr 1 0] 152, .cells [.int .i64 (.var 2), .int .i64 (.var 3), .int .i64 (.var 4), .int .u64 (.var 7), .int .i64 (.var 8), .int .i64 (.var 9), .bool (.lit true), .bool (.lit true), .int .i64 (.lit 0), .func (.func 128) [] []] 192], isNil := false, ok := takE2Ok, obj := takE2Obj }
def takNilT : ObjT U := { nv := 0, hp := [], isNil := true, ok := fun ps => ps = [], obj := fun _ => .takeNil }
def givA : ObjT U := { nv := 6, hp := [.cells [.int .i64 (.var 0), .int .i64 (.var 1), .int .i64 (.var 2), .int .i64 (.var 3), .int .i64 (.var 4), .int .i64 (.var 5), .int .u64 (.lit 0), .func (.func 82) [.ptr 0 0] [], .nilf, .bool (.lit true), .int .i64 (.lit 0), .ptr 1 0] 134, .cells [.int .i64 (.var 2), .int .i64 (.var 3), .int .i64 (.var 4), .int .u64 (.lit 0), .int .i64 (.var 5), .int .i64 (.lit 0), .bool (.lit true), .bool (.lit false), .int .i64 (.lit 0), .func (.func 117) [] []] 183], isNil := false, ok := givAOk, obj := givAObj }
def givL : ObjT U := { nv := 7, hp := [.cells [.int .i64 (.var 0), .int .i64 (.var 1), .int .i64 (.var 2), .int .i64 (.var 3), .int .i64 (.var 4), .int .i64 (.var 5), .int .u64 (.var 6), .func (.func 82) [.ptr 0 0] [], .func (.func 82) [.ptr 0 0] [], .bool (.lit true), .int .i64 (.lit 0), .ptr 1 0] 134, .cells [.int .i64 (.var 2), .int .i64 (.var 3), .int .i64 (.var 4), .int .u64 (.lit 0), .int .i64 (.var 5), .int .i64 (.lit 0), .bool (.lit true), .bool (.lit false), .int .i64 (.lit 0), .func (.func 117) [] []] 183], isNil := false, ok := givLOk, obj := givLObj }
def givS : ObjT U := { nv := 7, hp := [.cells [.int .i64 (.var 0), .int .i64 (.var 1), .int .i64 (.var 2), .int .i64 (.var 3), .int .i64 (.var 4), .int .i64 (.var 5), .int .u64 (.var 6), .func (.func 119) [.ptr 0 0] [], .func (.func 119) [.ptr 0 0] [], .bool (.lit true), .int .i64 (.lit 0), .ptr 1 0] 134, .cells [.int .i64 (.var 2), .int .i64 (.var 3), .int .i64 (.var 4), .int .u64 (.lit 0), .int .i64 (.var 5), .int .i64 (.lit 0), .bool (.lit true), .bool (.lit false), .int .i64 (.lit 0), .func (.func 117) [] []] 183], isNil := false, ok := givSOk, obj := givSObj }
def givP1 : ObjT U := { nv := 9, hp := [.cells [.int .i64 (.var 0), .int .i64 (.var 1), .int .i64 (.var 2), .int .i64 (.var 3), .int .i64 (.var 4), .int .i64 (.var 5), .int .u64 (.var 6), .func (.func 140) [.ptr 0 0] [], .func (.func 140) [.ptr 0 0] [], .bool (.lit true), .int .i64 (.lit 0), .ptr 1 0] 134, .cells [.int .i64 (.var 2), .int .i64 (.var 3), .int .i64 (.var 4), .int .u64 (.var 7), .int .i64 (.var 5), .int .i64 (.var 8), .bool (.lit true), .bool (.lit false), .int .i64 (.lit 0), .func (.func 117) [] []] 183], isNil := false, ok := givP1Ok, obj := givP1Obj }
def givP2 : ObjT U := { nv := 9, hp := [.cells [.int .i64 (.var 0), .int .i64 (.var 1), .int .i64 (.var 2), .int .i64 (.var 3), .int .i64 (.var 4), .int .i64 (.var 5), .int .u64 (.var 6), .func (.func 140) [.ptr 0 0] [], .func (.func 140) [.ptr 0 0] [], .bool (.lit true), .int .i64 (.lit 0), .ptr 1 0] 134, .cells [.int .i64 (.var 2), .int .i64 (.var 3), .int .i64 (.var 4), .int .u64 (.var 7), .int .i64 (.var 5), .int .i64 (.var 8), .bool (.lit true), .bool (.lit false), .int .i64 (.lit 0), .func (.func 138) [] []] 183], isNil := false, ok := givP2Ok, obj := givP2Obj }
def givP3 : ObjT U := { nv := 9, hp := [.cells [.int .i64 (.var 0), .int .i64 (.var 1), .int .i64 (.var 2), .int .i64 (.var 3), .int .i64 (.var 4), .int .i64 (.var 5), .int .u64 (.var 6), .func (.func 140) [.ptr 0 0] [], .func (.func 140) [.ptr 0 0] [], .bool (.lit true), .int .i64 (.lit 0), .ptr 1 0] 134, .cells [.int .i64 (.var 2), .int .i64 (.var 3), .int .i64 (.var 4), .int .u64 (.var 7), .int .i64 (.var 5), .int .i64 (.var 8), .bool (.lit true), .bool (.lit false), .int .i64 (.lit 0), .func (.func 149) [] []] 183], isNil := false, ok := givP3Ok, obj := givP3Obj }
def givE1 : ObjT U := { nv := 8, hp := [.cells [.int .i64 (.var 0), .int .i64 (.var 1), .int .i64 (.var 2), .int .i64 (.var 3), .int .i64 (.var 4), .int .i64 (.var 5), .int .u64 (.var 6), .nilf, .nilf, .bool (.lit true), .int .i64 (.var 7), .ptr 1 0] 134, .cells [.int .i64 (.var 2), .int .i64 (.var 3), .int .i64 (.var 4), .int .u64 (.lit 0), .int .i64 (.var 5), .int .i64 (.lit 0), .bool (.lit true), .bool (.lit false), .int .i64 (.lit 0), .func (.func 117) [] []] 183], isNil := false, ok := givE1Ok, obj := givE1Obj }
def givE2 : ObjT U := { nv := 9, hp := [.cells [.int .i64 (.var 0), .int .i64 (.var 1), .int .i64 (.var 2), .int .i64 (.var 3), .int .i64 (.var 4), .int .i64 (.var 5), .int .u64 (.var 6), .nilf, .nilf, .bool (.lit true), .int .i64 (.lit 0), .ptr 1 0] 134, .cells [.int .i64 (.var 2), .int .i64 (.var 3), .int .i64 (.var 4), .int .u64 (.var 7), .int .i64 (.var 5), .int .i64 (.var 8), .bool (.lit true), .bool (.lit true), .int .i64 (.lit 0), .func (.func 117) [] []] 183], isNil := false, ok := givE2Ok, obj := givE2Obj }
def givR : ObjT U := { nv := 7, hp := [.cells [.int .i64 (.var 0), .int .i64 (.var 1), .int .i64 (.var 2), .int .i64 (.var 3), .int .i64 (.var 4), .int .i64 (.var 5), .int .u64 (.lit 0), .nilf, .nilf, .bool (.lit true), .int .i64 (.var 6), .nilp] 134], isNil := false, ok := givROk, obj := givRObj }
def givNilT : ObjT U := { nv := 0, hp := [], isNil := true, ok := fun ps => ps = [], obj := fun _ => .giveNil }
def turA : ObjT U := { nv := 9, hp := [.cells [.int .i64 (.var 0), .int .i64 (.var 1), .int .i64 (.var 2), .int .i64 (.var 3), .int .i64 (.var 4), .int .i64 (.var 5), .int .u64 (.lit 0), .func (.func 90) [.ptr 0 0] [], .nilf, .bool (.lit true), .int .i64 (.lit 0), .int .i64 (.var 6), .int .i64 (.var 7), .int .i64 (.var 8)] 144], isNil := false, ok := turAOk, obj := turAObj }
def turL : ObjT U := { nv := 10, hp := [.cells [.int .i64 (.var 0), .int .i64 (.var 1), .int .i64 (.var 2), .int .i64 (.var 3), .int .i64 (.var 4), .int .i64 (.var 5), .int .u64 (.var 6), .func (.func 90) [.ptr 0 0] [], .func (.func 90) [.ptr 0 0] [], .bool (.lit true), .int .i64 (.lit 0), .int .i64 (.var 7), .int .i64 (.var 8), .int .i64 (.var 9)] 144], isNil := false, ok := turLOk, obj := turLObj }
def turS : ObjT U := { nv := 10, hp := [.cells [.int .i64 (.var 0), .int .i64 (.var 1), .int .i64 (.var 2), .int .i64 (.var 3), .int .i64 (.var 4), .int .i64 (.var 5), .int .u64 (.var 6), .func (.func 126) [.ptr 0 0] [], .func (.func 126) [.ptr 0 0] [], .bool (.lit true), .int .i64 (.lit 0), .int .i64 (.var 7), .int .i64 (.var 8), .int .i64 (.var 9)] 144], isNil := false, ok := turSOk, obj := turSObj }
def turE : ObjT U := { nv := 11, hp := [.cells [.int .i64 (.var 0), .int .i64 (.var 1), .int .i64 (.var 2), .int .i64 (.var 3), .int .i64 (.var 4), .int .i64 (.var 5), .int .u64 (.var 6), .nilf, .nilf, .bool (.lit true), .int .i64 (.var 7), .int .i64 (.var 8), .int .i64 (.var 9), .int .i64 (.var 10)] 144], isNil := false, ok := turEOk, obj := turEObj }
def turNilT : ObjT U := { nv := 0, hp := [], isNil := true, ok := fun ps => ps = [], obj := fun _ => .turnNil }
def keyA : ObjT U := { nv := 7, hp := [.cells [.int .i64 (.var 0), .int .i64 (.var 1), .int .i64 (.var 2), .int .i64 (.var 3), .int .i64 (.var 4), .int .i64 (.var 5), .int .u64 (.lit 0), .func (.func 85) [.ptr 0 0] [], .nilf, .bool (.lit true), .int .i64 (.lit 0), .int .u64 (.var 6)] 137], isNil := false, ok := keyAOk, obj := keyAObj }
def keyE : ObjT U := { nv := 8, hp := [.cells [.int .i64 (.var 0), .int .i64 (.var 1), .int .i64 (.var 2), .int .i64 (.var 3), .int .i64 (.var 4), .int .i64 (.var 5), .int .u64 (.lit 0), .nilf, .nilf, .bool (.lit true), .int .i64 (.var 7), .int .u64 (.var 6)] 137], isNil := false, ok := keyEOk, obj := keyEObj }
def keyNilT : ObjT U := { nv := 0, hp := [], isNil := true, ok := fun ps => ps = [], obj := fun _ => .keyNil }
def kofA : ObjT U := { nv := 6, hp := [.cells [.int .i64 (.var 0), .int .i64 (.var 1), .int .i64 (.var 2), .int .i64 (.var 3), .int .i64 (.var 4), .int .i64 (.var 5), .int .u64 (.lit 0), .func (.func 86) [.ptr 0 0] [], .nilf, .bool (.lit true), .int .i64 (.lit 0)] 139], isNil := false, ok := kofAOk, obj := kofAObj }
def kofE : ObjT U := { nv := 8, hp := [.cells [.int .i64 (.var 0), .int .i64 (.var 1), .int .i64 (.var 2), .int .i64 (.var 3), .int .i64 (.var 4), .int .i64 (.var 5), .int .u64 (.var 6), .nilf, .nilf, .bool (.lit true), .int .i64 (.var 7)] 139], isNil := false, ok := kofEOk, obj := kofEObj }
def kofNilT : ObjT U := { nv := 0, hp := [], isNil := true, ok := fun ps => ps = [], obj := fun _ => .keyOfNil }
def ropT : ObjT U := { nv := 13, hp := [.cells [.int .i64 (.var 0), .int .i64 (.var 1), .int .i64 (.var 2), .int .i64 (.var 3), .int .i64 (.var 4), .int .i64 (.var 5), .int .i64 (.var 6), .int .u64 (.var 7), .ptr 1 0, .nilp, .nils, .int .i64 (.lit 2), .int .i64 (.lit 0), .bool (.lit false), .int .i64 (.var 8)] 171, .cells [.int .i64 (.var 2), .int .i64 (.var 3), .int .i64 (.var 4), .int .i64 (.var 9), .int .u64 (.var 10), .int .i64 (.var 11), .int .i64 (.var 12)] 199], isNil := false, ok := ropTOk, obj := ropTObj }
def ropG1 : ObjT U := { nv := 9, hp := [.cells [.int .i64 (.var 0), .int .i64 (.var 1), .int .i64 (.var 2), .int .i64 (.var 3), .int .i64 (.var 4), .int .i64 (.var 5), .int .i64 (.var 6), .int .u64 (.var 7), .nilp, .nilp, .slice 1 (.lit 2) (.lit 2), .int .i64 (.lit 1), .int .i64 (.lit 0), .bool (.lit true), .int .i64 (.var 8)] 171, .cells [.int .i64 (.lit 5), .int .i64 (.lit 2)] 3], isNil := false, ok := ropG1Ok, obj := ropG1Obj }
def ropG2 : ObjT U := { nv := 11, hp := [.cells [.int .i64 (.var 0), .int .i64 (.var 1), .int .i64 (.var 2), .int .i64 (.var 3), .int .i64 (.var 4), .int .i64 (.var 5), .int .i64 (.var 6), .int .u64 (.var 7), .nilp, .ptr 2 0, .slice 1 (.lit 2) (.lit 2), .int .i64 (.lit 1), .int .i64 (.lit 0), .bool (.lit true), .int .i64 (.var 8)] 171, .cells [.int .i64 (.lit 5), .int .i64 (.lit 2)] 3, .cells [.int .i64 (.var 2), .int .i64 (.var 3), .int .i64 (.var 4), .int .i64 (.var 9), .int .u64 (.var 10), .int .i64 (.var 6), .int .i64 (.lit 0)] 203], isNil := false, ok := ropG2Ok, obj := ropG2Obj }
def ropU : ObjT U := { nv := 12, hp := [.cells [.int .i64 (.var 0), .int .i64 (.var 1), .int .i64 (.var 2), .int .i64 (.var 3), .int .i64 (.var 4), .int .i64 (.var 5), .int .i64 (.var 6), .int .u64 (.var 7), .nilp, .nilp, .slice 1 (.lit 1) (.lit 1), .int .i64 (.var 9), .int .i64 (.var 10), .bool (.lit false), .int .i64 (.var 11)] 171, .cells [.int .i64 (.var 8)] 3], isNil := false, ok := ropUOk, obj := ropUObj }
def ropN : ObjT U := { nv := 1, hp := [.cells [.int .i64 (.lit 0), .int .i64 (.lit 0), .int .i64 (.lit 0), .int .i64 (.lit 0), .int .i64 (.lit 0), .int .i64 (.lit 9), .int .i64 (.lit 0), .int .u64 (.lit 0), .nilp, .nilp, .nils, .int .i64 (.lit 0), .int .i64 (.lit 0), .bool (.lit false), .int .i64 (.var 0)] 171], isNil := false, ok := ropNOk, obj := ropNObj }
def ropNilT : ObjT U := { nv := 0, hp := [], isNil := true, ok := fun ps => ps = [], obj := fun _ => .ropNil }
def rkeyS : ObjT U := { nv := 4, hp := [.cells [.int .i64 (.var 0), .bool (.lit false), .int .u64 (.var 1), .int .i64 (.var 2), .int .i64 (.var 3)] 174], isNil := false, ok := rkeySOk, obj := rkeySObj }
def rkeyL : ObjT U := { nv := 4, hp := [.cells [.int .i64 (.var 0), .bool (.lit true), .int .u64 (.var 1), .int .i64 (.var 2), .int .i64 (.var 3)] 174], isNil := false, ok := rkeyLOk, obj := rkeyLObj }
def rkeyNilT : ObjT U := { nv := 0, hp := [], isNil := true, ok := fun ps => ps = [], obj := fun _ => .rkeyNil }
def objs : List (ObjT U) := [memT, memNilT, memZeroT, rmemT, rmemNilT, takA, takP1, takP2, takP3, takL, takS, takE1, takE2, takNilT, givA, givL, givS, givP1, givP2, givP3, givE1, givE2, givR, givNilT, turA, turL, turS, turE, turNilT, keyA, keyE, keyNilT, kofA, kofE, kofNilT, ropT, ropG1, ropG2, ropU, ropN, ropNilT, rkeyS, rkeyL, rkeyNilT]
theorem objs_all {p : Nat → ObjT U → Prop} (h0 : p 0 memT) (h1 : p 1 memNilT) (h2 : p 2 memZeroT) (h3 : p 3 rmemT) (h4 : p 4 rmemNilT) (h5 : p 5 takA) (h6 : p 6 takP1) (h7 : p 7 takP2) (h8 : p 8 takP3) (h9 : p 9 takL) (h10 : p 10 takS) (h11 : p 11 takE1) (h12 : p 12 takE2) (h13 : p 13 takNilT) (h14 : p 14 givA) (h15 : p 15 givL) (h16 : p 16 givS) (h17 : p 17 givP1) (h18 : p 18 givP2) (h19 : p 19 givP3) (h20 : p 20 givE1) (h21 : p 21 givE2) (h22 : p 22 givR) (h23 : p 23 givNilT) (h24 : p 24 turA) (h25 : p 25 turL) (h26 : p 26 turS) (h27 : p 27 turE) (h28 : p 28 turNilT) (h29 : p 29 keyA) (h30 : p 30 keyE) (h31 : p 31 keyNilT) (h32 : p 32 kofA) (h33 : p 33 kofE) (h34 : p 34 kofNilT) (h35 : p 35 ropT) (h36 : p 36 ropG1) (h37 : p 37 ropG2) (h38 : p 38 ropU) (h39 : p 39 ropN) (h40 : p 40 ropNilT) (h41 : p 41 rkeyS) (h42 : p 42 rkeyL) (h43 : p 43 rkeyNilT) : ∀ (t : Nat) (T : ObjT U), objs[t]? = some T → p t T := by
  intro t T h
  match t, h with
  | 0, h => cases h; exact h0
  | 1, h => cases h; exact h1
  | 2, h => cases h; exact h2
  | 3, h => cases h; exact h3
  | 4, h => cases h; exact h4
  | 5, h => cases h; exact h5
  | 6, h => cases h; exact h6
  | 7, h => cases h; exact h7
  | 8, h => cases h; exact h8
  | 9, h => cases h; exact h9
  | 10, h => cases h; exact h10
  | 11, h => cases h; exact h11
  | 12, h => cases h; exact h12
  | 13, h => cases h; exact h13
  | 14, h => cases h; exact h14
  | 15, h => cases h; exact h15
  | 16, h => cases h; exact h16
  | 17, h => cases h; exact h17
  | 18, h => cases h; exact h18
  | 19, h => cases h; exact h19
  | 20, h => cases h; exact h20
  | 21, h => cases h; exact h21
  | 22, h => cases h; exact h22
  | 23, h => cases h; exact h23
  | 24, h => cases h; exact h24
  | 25, h => cases h; exact h25
  | 26, h => cases h; exact h26
  | 27, h => cases h; exact h27
  | 28, h => cases h; exact h28
  | 29, h => cases h; exact h29
  | 30, h => cases h; exact h30
  | 31, h => cases h; exact h31
  | 32, h => cases h; exact h32
  | 33, h => cases h; exact h33
  | 34, h => cases h; exact h34
  | 35, h => cases h; exact h35
  | 36, h => cases h; exact h36
  | 37, h => cases h; exact h37
  | 38, h => cases h; exact h38
  | 39, h => cases h; exact h39
  | 40, h => cases h; exact h40
  | 41, h => cases h; exact h41
  | 42, h => cases h; exact h42
  | 43, h => cases h; exact h43
  | t + 44, h => cases h
theorem objsOk : ObjsOk objs := by
  refine ⟨objs_all ?_ ?_ ?_ ?_ ?_ ?_ ?_ ?_ ?_ ?_ ?_ ?_ ?_ ?_ ?_ ?_ ?_ ?_ ?_ ?_ ?_ ?_ ?_ ?_ ?_ ?_ ?_ ?_ ?_ ?_ ?_ ?_ ?_ ?_ ?_ ?_ ?_ ?_ ?_ ?_ ?_ ?_ ?_ ?_, objs_all ?_ ?_ ?_ ?_ ?_ ?_ ?_ ?_ ?_ ?_ ?_ ?_ ?_ ?_ ?_ ?_ ?_ ?_ ?_ ?_ ?_ ?_ ?_ ?_ ?_ ?_ ?_ ?_ ?_ ?_ ?_ ?_ ?_ ?_ ?_ ?_ ?_ ?_ ?_ ?_ ?_ ?_ ?_ ?_, objs_all ?_ ?_ ?_ ?_ ?_ ?_ ?_ ?_ ?_ ?_ ?_ ?_ ?_ ?_ ?_ ?_ ?_ ?_ ?_ ?_ ?_ ?_ ?_ ?_ ?_ ?_ ?_ ?_ ?_ ?_ ?_ ?_ ?_ ?_ ?_ ?_ ?_ ?_ ?_ ?_ ?_ ?_ ?_ ?_, objs_all ?_ ?_ ?_ ?_ ?_ ?_ ?_ ?_ ?_ ?_ ?_ ?_ ?_ ?_ ?_ ?_ ?_ ?_ ?_ ?_ ?_ ?_ ?_ ?_ ?_ ?_ ?_ ?_ ?_ ?_ ?_ ?_ ?_ ?_ ?_ ?_ ?_ ?_ ?_ ?_ ?_ ?_ ?_ ?_⟩
  all_goals first
    | (rintro ps ⟨l, s, k, a, o, n, h, N, rfl, _⟩; rfl)
    | (rintro ps ⟨_, rfl, _⟩; rfl)
    | (rintro ps ⟨_, _, _, _, rfl, _⟩; rfl)
    | (rintro ps ⟨_, _, _, _, _, rfl, _⟩; rfl)
    | (rintro ps ⟨_, _, _, _, _, _, rfl, _⟩; rfl)
    | (rintro ps ⟨_, _, _, _, _, _, _, rfl, _⟩; rfl)
    | (rintro ps ⟨_, _, _, _, _, _, _, _, rfl, _⟩; rfl)
    | (rintro ps ⟨_, _, _, _, _, _, _, _, _, rfl, _⟩; rfl)
    | (rintro ps ⟨_, _, _, _, _, _, _, _, _, _, rfl, _⟩; rfl)
    | (rintro ps ⟨_, _, _, _, _, _, _, _, _, _, _, rfl, _⟩; rfl)
    | (rintro ps ⟨_, _, _, _, _, _, _, _, _, _, _, _, rfl, _⟩; rfl)
    | (rintro ps ⟨_, _, _, _, _, _, _, _, _, _, _, _, _, rfl, _⟩; rfl)
    | (rintro ps rfl; rfl)
    | (intro h; cases h; done)
    | (intro _; rfl)
    | (intro _; exact ⟨_, _, rfl⟩)
    | (intro n h hh; match n, hh with | 0, hh => cases hh; rfl | n + 1, hh => cases hh)
    | (intro n h hh; match n, hh with | 0, hh => cases hh; rfl | 1, hh => cases hh; rfl | n + 2, hh => cases hh)
    | (intro n h hh; match n, hh with | 0, hh => cases hh; rfl | 1, hh => cases hh; rfl | 2, hh => cases hh; rfl | n + 3, hh => cases hh)
    | (intro n h hh; match n, hh with | 0, hh => cases hh; rfl | 1, hh => cases hh; rfl | 2, hh => cases hh; rfl | 3, hh => cases hh; rfl | n + 4, hh => cases hh)
    | (intro n h hh; match n, hh with | 0, hh => cases hh; rfl | 1, hh => cases hh; rfl | 2, hh => cases hh; rfl | 3, hh => cases hh; rfl | 4, hh => cases hh; rfl | n + 5, hh => cases hh)
    | (intro n h hh; cases hh)
def kinds : List Nat := [1, 2, 3, 4, 5, 6, 6, 6, 6, 6, 6, 6, 6, 7, 8, 8, 8, 8, 8, 8, 8, 8, 8, 9, 10, 10, 10, 10, 11, 12, 12, 13, 14, 14, 15, 16, 16, 16, 16, 16, 17, 18, 18, 19]
/-- which kind of object a form has -/
theorem kind_of : ∀ (t : Nat) (T : ObjT U), objs[t]? = some T → ∀ ps, T.ok ps → (T.obj ps).kind = kinds.getD t 0 := by
  refine objs_all ?_ ?_ ?_ ?_ ?_ ?_ ?_ ?_ ?_ ?_ ?_ ?_ ?_ ?_ ?_ ?_ ?_ ?_ ?_ ?_ ?_ ?_ ?_ ?_ ?_ ?_ ?_ ?_ ?_ ?_ ?_ ?_ ?_ ?_ ?_ ?_ ?_ ?_ ?_ ?_ ?_ ?_ ?_ ?_
  all_goals first
    | (rintro ps ⟨l, s, k, a, o, n, h, N, rfl, _⟩; rfl)
    | (rintro ps ⟨_, rfl, _⟩; rfl)
    | (rintro ps ⟨_, _, _, _, rfl, _⟩; rfl)
    | (rintro ps ⟨_, _, _, _, _, rfl, _⟩; rfl)
    | (rintro ps ⟨_, _, _, _, _, _, rfl, _⟩; rfl)
    | (rintro ps ⟨_, _, _, _, _, _, _, rfl, _⟩; rfl)
    | (rintro ps ⟨_, _, _, _, _, _, _, _, rfl, _⟩; rfl)
    | (rintro ps ⟨_, _, _, _, _, _, _, _, _, rfl, _⟩; rfl)
    | (rintro ps ⟨_, _, _, _, _, _, _, _, _, _, rfl, _⟩; rfl)
    | (rintro ps ⟨_, _, _, _, _, _, _, _, _, _, _, rfl, _⟩; rfl)
    | (rintro ps ⟨_, _, _, _, _, _, _, _, _, _, _, _, rfl, _⟩; rfl)
    | (rintro ps ⟨_, _, _, _, _, _, _, _, _, _, _, _, _, rfl, _⟩; rfl)
    | (rintro ps rfl; rfl)
theorem nomore_kind {u : U} {ts : List Nat} (h : ∀ t, t < 44 → t ∉ ts → kinds.getD t 0 ≠ u.kind) : ∀ (t : Nat) (T : ObjT U) (ps : List (EV U)), objs[t]? = some T → t ∉ ts → ps.length = T.nv → T.ok ps → some (EV.u u) ≠ some (EV.u (T.obj ps)) := by
  intro t T ps ht hn _ hok e
  injection e with e; injection e with e
  have hk := kind_of t T ht ps hok
  rw [← e] at hk
  exact h t (List.getElem?_eq_some_iff.1 ht).1 hn hk.symm
theorem mixed : Tryz.prog.follows .mixedOrders = true := by kernel_rfl
def cx (P : Program) (cts : List (Ctr U)) : Cx U := { P := P, cts := cts, objs := objs, loops := [], hints := [] }
end Go.Proofs.YtdabdbbgaekmdaaGreat
namespace Go.Proofs.YtdabdbbgaekmdaaGreat
set_option linter.unusedVariables false
set_option linter.unusedSimpArgs false
set_option linter.unusedSectionVars false
open Go
def cLoad : Ctr U :=
  { fn := 124, nin := 2, args := [.hnd 0, .int .i64 (.var 1)], heap := [.abs 0]
    pre := fun ins => ∃ M at_, ins = [.u (.mem M), .i at_], nout := 2
    out := fun ins => match ins with | [.u (.mem M), .i at_] => [.u (.mem (M.load at_)), .i (M.load at_).n] | _ => []
    ret := .int .u64 (.var 3), post := [.abs 2] }
def cStore : Ctr U :=
  { fn := 62, nin := 3, args := [.hnd 0, .int .i64 (.var 1), .int .u64 (.var 2)], heap := [.abs 0]
    pre := fun ins => ∃ M at_ x, ins = [.u (.mem M), .i at_, .i x], nout := 1
    out := fun ins => match ins with | [.u (.mem M), .i at_, .i x] => [.u (.mem (M.store at_ x))] | _ => []
    ret := .tuple [], post := [.abs 3] }
def cCAS : Ctr U :=
  { fn := 150, nin := 4, args := [.hnd 0, .int .i64 (.var 1), .int .u64 (.var 2), .int .u64 (.var 3)], heap := [.abs 0]
    pre := fun ins => ∃ M at_ x y, ins = [.u (.mem M), .i at_, .i x, .i y], nout := 2
    out := fun ins => match ins with | [.u (.mem M), .i at_, .i x, .i y] => [.u (.mem (M.cas at_ x y)), .b (M.cas at_ x y).h] | _ => []
    ret := .bool (.var 5), post := [.abs 4] }
def cNew : Ctr U :=
  { fn := 47, nin := 1, args := [.int .i64 (.var 0)], heap := []
    pre := fun ins => ∃ n, ins = [.i n], nout := 2
    out := fun ins => match ins with | [.i n] => if 1 ≤ n ∧ n ≤ 4096 then [.u (.mem (.new n)), .i 0] else [.u .memNil, .i 3] | _ => []
    ret := .tuple [.hnd 0, .int .i64 (.var 2)], post := [.abs 1] }
end Go.Proofs.YtdabdbbgaekmdaaGreat
namespace Go.Proofs.YtdabdbbgaekmdaaGreat
set_option linter.unusedVariables false
set_option linter.unusedSimpArgs false
set_option linter.unusedSectionVars false
open Go
set_option maxRecDepth 100000
def tLoad : Tree := (.and (.opn 0 0 (.br (.cmp .lss (.var 1) (.lit 0))
 (.ext (.mk 0 [.var 2, .ex (.var 3), .ex (.lit 1), .ex (.var 1), .ex (.lit 0), .ex (.lit 0), .bx (.lit false), .ex (.bin .add .i64 (.var 9) (.lit 1))]) (.ret [.var 10, .ex (.lit 0)]))
 (.br (.cmp .geq (.var 1) (.var 3))
 (.ext (.mk 0 [.var 2, .ex (.var 3), .ex (.lit 1), .ex (.var 1), .ex (.lit 0), .ex (.lit 0), .bx (.lit false), .ex (.bin .add .i64 (.var 9) (.lit 1))]) (.ret [.var 10, .ex (.lit 0)]))
 (.need (.cmp .leq (.lit 0) (.var 1)) (.need (.cmp .lss (.var 1) (.lit 4096)) (.need (.cmp .leq (.lit 0) (.var 1)) (.need (.cmp .lss (.var 1) (.len 2)) (.need (.cmp .leq (.lit 0) (.var 1)) (.need (.cmp .lss (.var 1) (.len 2)) (.need (.cmp .leq (.lit 0) (.var 1)) (.need (.cmp .lss (.var 1) (.len 2)) (.ext (.setl 2 (.var 1) (.nth 2 (.var 1))) (.ext (.mk 0 [.var 10, .ex (.var 3), .ex (.lit 1), .ex (.var 1), .ex (.nth 2 (.var 1)), .ex (.nth 2 (.var 1)), .bx (.lit false), .ex (.bin .add .i64 (.var 9) (.lit 1))]) (.ret [.var 11, .ex (.nth 2 (.var 1))]))))))))))))))
 (.nomore 0 [0]))
theorem rLoad : runCtr (cx Tryz.prog []) 20 cLoad [(0, [0])] [(0, [0, 1])] = tLoad := by kernel_rfl
def tStore : Tree := (.and (.opn 0 0 (.br (.cmp .lss (.var 1) (.lit 0))
 (.ext (.mk 0 [.var 3, .ex (.var 4), .ex (.lit 2), .ex (.var 1), .ex (.lit 0), .ex (.lit 0), .bx (.lit false), .ex (.bin .add .i64 (.var 10) (.lit 1))]) (.ret [.var 11]))
 (.br (.cmp .geq (.var 1) (.var 4))
 (.ext (.mk 0 [.var 3, .ex (.var 4), .ex (.lit 2), .ex (.var 1), .ex (.lit 0), .ex (.lit 0), .bx (.lit false), .ex (.bin .add .i64 (.var 10) (.lit 1))]) (.ret [.var 11]))
 (.need (.cmp .leq (.lit 0) (.var 1)) (.need (.cmp .lss (.var 1) (.lit 4096)) (.need (.cmp .leq (.lit 0) (.var 1)) (.need (.cmp .lss (.var 1) (.len 3)) (.need (.cmp .leq (.lit 0) (.var 1)) (.need (.cmp .lss (.var 1) (.len 3)) (.ext (.setl 3 (.var 1) (.var 2)) (.ext (.mk 0 [.var 11, .ex (.var 4), .ex (.lit 2), .ex (.var 1), .ex (.nth 3 (.var 1)), .ex (.var 2), .bx (.lit true), .ex (.bin .add .i64 (.var 10) (.lit 1))]) (.ret [.var 12]))))))))))))
 (.nomore 0 [0]))
theorem rStore : runCtr (cx Tryz.prog []) 20 cStore [(0, [0])] [(0, [0, 1])] = tStore := by kernel_rfl
def tCAS : Tree := (.and (.opn 0 0 (.br (.cmp .lss (.var 1) (.lit 0))
 (.ext (.mk 0 [.var 4, .ex (.var 5), .ex (.lit 3), .ex (.var 1), .ex (.lit 0), .ex (.lit 0), .bx (.lit false), .ex (.bin .add .i64 (.var 11) (.lit 1))]) (.ret [.var 12, .bx (.lit false)]))
 (.br (.cmp .geq (.var 1) (.var 5))
 (.ext (.mk 0 [.var 4, .ex (.var 5), .ex (.lit 3), .ex (.var 1), .ex (.lit 0), .ex (.lit 0), .bx (.lit false), .ex (.bin .add .i64 (.var 11) (.lit 1))]) (.ret [.var 12, .bx (.lit false)]))
 (.need (.cmp .leq (.lit 0) (.var 1)) (.need (.cmp .lss (.var 1) (.lit 4096)) (.need (.cmp .leq (.lit 0) (.var 1)) (.need (.cmp .lss (.var 1) (.len 4)) (.br (.cmp .eql (.nth 4 (.var 1)) (.var 2))
 (.need (.cmp .leq (.lit 0) (.var 1)) (.need (.cmp .lss (.var 1) (.len 4)) (.need (.cmp .leq (.lit 0) (.var 1)) (.need (.cmp .lss (.var 1) (.len 4)) (.ext (.setl 4 (.var 1) (.var 3)) (.ext (.mk 0 [.var 12, .ex (.var 5), .ex (.lit 3), .ex (.var 1), .ex (.nth 4 (.var 1)), .ex (.var 3), .bx (.lit true), .ex (.bin .add .i64 (.var 11) (.lit 1))]) (.ret [.var 13, .bx (.lit true)])))))))
 (.need (.cmp .leq (.lit 0) (.var 1)) (.need (.cmp .lss (.var 1) (.len 4)) (.need (.cmp .leq (.lit 0) (.var 1)) (.need (.cmp .lss (.var 1) (.len 4)) (.need (.cmp .leq (.lit 0) (.var 1)) (.need (.cmp .lss (.var 1) (.len 4)) (.ext (.setl 4 (.var 1) (.nth 4 (.var 1))) (.ext (.mk 0 [.var 12, .ex (.var 5), .ex (.lit 3), .ex (.var 1), .ex (.nth 4 (.var 1)), .ex (.nth 4 (.var 1)), .bx (.lit false), .ex (.bin .add .i64 (.var 11) (.lit 1))]) (.ret [.var 13, .bx (.lit false)])))))))))))))))))
 (.nomore 0 [0]))
theorem rCAS : runCtr (cx Tryz.prog []) 20 cCAS [(0, [0])] [(0, [0, 1])] = tCAS := by kernel_rfl
def tNew : Tree := (.br (.cmp .lss (.var 0) (.lit 1))
 (.ext (.mk 1 []) (.ret [.var 1, .ex (.lit 3)]))
 (.br (.cmp .gtr (.var 0) (.lit 4096))
 (.ext (.mk 1 []) (.ret [.var 1, .ex (.lit 3)]))
 (.ext (.repl (.lit 4096) (.lit 0)) (.ext (.mk 0 [.var 1, .ex (.var 0), .ex (.lit 0), .ex (.lit 0), .ex (.lit 0), .ex (.lit 0), .bx (.lit false), .ex (.lit 0)]) (.ret [.var 2, .ex (.lit 0)])))))
theorem rNew : runCtr (cx Tryz.prog []) 20 cNew [] [(0, [0, 1])] = tNew := by kernel_rfl
end Go.Proofs.YtdabdbbgaekmdaaGreat
namespace Go.Proofs.YtdabdbbgaekmdaaGreat
set_option linter.unusedVariables false
set_option linter.unusedSimpArgs false
set_option linter.unusedSectionVars false
open Go
section
variable {l : List Int} {s k a o n N at_ w : Int} {h held : Bool} {kind : Int}
theorem mem_is (h1 : l.length = 4096) (h2 : 0 ≤ s) (h3 : s ≤ 4096) : (MemSt.mk (l.take s.toNat) k a o n h N).is at_ = decide (0 ≤ at_ ∧ at_ < s) := by
  unfold MemSt.is
  have : (l.take s.toNat).length = s.toNat := by rw [List.length_take]; omega
  rw [this]
  congr 1
  apply propext
  omega
theorem mem_word (h1 : 0 ≤ at_) (h2 : at_ < s) : (MemSt.mk (l.take s.toNat) k a o n h N).word at_ = l[at_.toNat]?.getD 0 := by
  unfold MemSt.word
  rw [List.getD, List.getElem?_take, if_pos (by omega)]
theorem mem_in (h1 : l.length = 4096) (h3 : s ≤ 4096) (g1 : 0 ≤ at_) (g2 : at_ < s) :
    (MemSt.mk (l.take s.toNat) k a o n h N).acc kind at_ w held = ⟨(l.set at_.toNat w).take s.toNat, kind, at_, l[at_.toNat]?.getD 0, w, held, IntKind.i64.wrap (N + 1)⟩ := by
  unfold MemSt.acc
  rw [mem_is h1 (by omega) h3, if_pos (by simp; omega), mem_word g1 g2, List.take_set]
theorem mem_out (h1 : l.length = 4096) (h2 : 0 ≤ s) (h3 : s ≤ 4096) (g : at_ < 0 ∨ s ≤ at_) :
    (MemSt.mk (l.take s.toNat) k a o n h N).acc kind at_ w held = ⟨l.take s.toNat, kind, at_, 0, 0, false, IntKind.i64.wrap (N + 1)⟩ := by
  unfold MemSt.acc
  rw [mem_is h1 h2 h3, if_neg (by simp; omega)]
theorem memOk_mk (h1 : l.length = 4096) (h2 : 0 ≤ s) (h3 : s ≤ 4096) : memOk [.l l, .i s, .i k, .i a, .i o, .i n, .b h, .i N] := ⟨_, _, _, _, _, _, _, _, rfl, h1, h2, h3⟩
end
theorem nomore_mem {M : MemSt} : ∀ (t : Nat) (T : ObjT U) (ps : List (EV U)), objs[t]? = some T → t ∉ [0] → ps.length = T.nv → T.ok ps → some (EV.u (U.mem M)) ≠ some (EV.u (T.obj ps)) := by
  exact nomore_kind (by show ∀ t, t < 44 → t ∉ [0] → kinds.getD t 0 ≠ 1; decide)
set_option maxHeartbeats 1000000 in
theorem vLoad (P : Program) : ∀ ins, ins.length = cLoad.nin → cLoad.pre ins → tLoad.sat (cx P []) (ctrR cLoad) ins := by
  rintro ins _ ⟨M, at_, rfl⟩
  simp only [Tree.sat, Bx.den, Ex.den, Bnd.den, gI, gB, gL, gF, gN, gNil, List.map_cons, List.map_nil, List.cons_append, List.nil_append, List.getElem?_cons_zero, List.getElem?_cons_succ, List.getD, Option.getD_some, cmp_eql_t, cmp_eql_f, cmp_neq_t, cmp_neq_f, cmp_lss_t, cmp_lss_f, cmp_leq_t, cmp_leq_f, cmp_gtr_t, cmp_gtr_f, cmp_geq_t, cmp_geq_f, Bool.not_eq_true', Bool.not_eq_false', Bool.and_eq_true, Bool.and_eq_false_iff, binDen, ctrR, Ctr.may, List.take_succ_cons, List.take_zero, Option.some.injEq, EV.u.injEq, tLoad, cx, objs]
  refine ⟨?_, nomore_mem⟩
  rintro ps hl ⟨l, s, k, a, o, n, h, N, rfl, h1, h2, h3⟩ he
  injection he with he; subst he
  simp only [Tree.sat, Bx.den, Ex.den, Bnd.den, gI, gB, gL, gF, gN, gNil, List.map_cons, List.map_nil, List.cons_append, List.nil_append, List.getElem?_cons_zero, List.getElem?_cons_succ, List.getD, Option.getD_some, cmp_eql_t, cmp_eql_f, cmp_neq_t, cmp_neq_f, cmp_lss_t, cmp_lss_f, cmp_leq_t, cmp_leq_f, cmp_gtr_t, cmp_gtr_f, cmp_geq_t, cmp_geq_f, Bool.not_eq_true', Bool.not_eq_false', Bool.and_eq_true, Bool.and_eq_false_iff, binDen, ctrR, Ctr.may, List.take_succ_cons, List.take_zero, Option.some.injEq, EV.u.injEq, memT, memObj, cLoad, List.length_set]
  refine ⟨fun g => ⟨memOk_mk h1 h2 h3, ?_⟩, fun g => ⟨fun g2 => ⟨memOk_mk h1 h2 h3, ?_⟩, fun g2 => ⟨by omega, by omega, by omega, by omega, by omega, by omega, by omega, by omega, memOk_mk (by simpa using h1) h2 h3, ?_⟩⟩⟩
  · rw [MemSt.load, mem_out h1 h2 h3 (.inl g)]
  · rw [MemSt.load, mem_out h1 h2 h3 (.inr g2)]
  · rw [MemSt.load, mem_word (by omega) (by omega), mem_in h1 h3 (by omega) (by omega)]
set_option maxHeartbeats 1000000 in
theorem vStore (P : Program) : ∀ ins, ins.length = cStore.nin → cStore.pre ins → tStore.sat (cx P []) (ctrR cStore) ins := by
  rintro ins _ ⟨M, at_, x, rfl⟩
  simp only [Tree.sat, Bx.den, Ex.den, Bnd.den, gI, gB, gL, gF, gN, gNil, List.map_cons, List.map_nil, List.cons_append, List.nil_append, List.getElem?_cons_zero, List.getElem?_cons_succ, List.getD, Option.getD_some, cmp_eql_t, cmp_eql_f, cmp_neq_t, cmp_neq_f, cmp_lss_t, cmp_lss_f, cmp_leq_t, cmp_leq_f, cmp_gtr_t, cmp_gtr_f, cmp_geq_t, cmp_geq_f, Bool.not_eq_true', Bool.not_eq_false', Bool.and_eq_true, Bool.and_eq_false_iff, binDen, ctrR, Ctr.may, List.take_succ_cons, List.take_zero, Option.some.injEq, EV.u.injEq, tStore, cx, objs]
  refine ⟨?_, nomore_mem⟩
  rintro ps hl ⟨l, s, k, a, o, n, h, N, rfl, h1, h2, h3⟩ he
  injection he with he; subst he
  simp only [Tree.sat, Bx.den, Ex.den, Bnd.den, gI, gB, gL, gF, gN, gNil, List.map_cons, List.map_nil, List.cons_append, List.nil_append, List.getElem?_cons_zero, List.getElem?_cons_succ, List.getD, Option.getD_some, cmp_eql_t, cmp_eql_f, cmp_neq_t, cmp_neq_f, cmp_lss_t, cmp_lss_f, cmp_leq_t, cmp_leq_f, cmp_gtr_t, cmp_gtr_f, cmp_geq_t, cmp_geq_f, Bool.not_eq_true', Bool.not_eq_false', Bool.and_eq_true, Bool.and_eq_false_iff, binDen, ctrR, Ctr.may, List.take_succ_cons, List.take_zero, Option.some.injEq, EV.u.injEq, memT, memObj, cStore, List.length_set]
  refine ⟨fun g => ⟨memOk_mk h1 h2 h3, ?_⟩, fun g => ⟨fun g2 => ⟨memOk_mk h1 h2 h3, ?_⟩, fun g2 => ⟨by omega, by omega, by omega, by omega, by omega, by omega, memOk_mk (by simpa using h1) h2 h3, ?_⟩⟩⟩
  · rw [MemSt.store, mem_out h1 h2 h3 (.inl g)]
  · rw [MemSt.store, mem_out h1 h2 h3 (.inr g2)]
  · rw [MemSt.store, mem_in h1 h3 (by omega) (by omega)]
set_option maxHeartbeats 1000000 in
theorem vCAS (P : Program) : ∀ ins, ins.length = cCAS.nin → cCAS.pre ins → tCAS.sat (cx P []) (ctrR cCAS) ins := by
  rintro ins _ ⟨M, at_, x, y, rfl⟩
  simp only [Tree.sat, Bx.den, Ex.den, Bnd.den, gI, gB, gL, gF, gN, gNil, List.map_cons, List.map_nil, List.cons_append, List.nil_append, List.getElem?_cons_zero, List.getElem?_cons_succ, List.getD, Option.getD_some, cmp_eql_t, cmp_eql_f, cmp_neq_t, cmp_neq_f, cmp_lss_t, cmp_lss_f, cmp_leq_t, cmp_leq_f, cmp_gtr_t, cmp_gtr_f, cmp_geq_t, cmp_geq_f, Bool.not_eq_true', Bool.not_eq_false', Bool.and_eq_true, Bool.and_eq_false_iff, binDen, ctrR, Ctr.may, List.take_succ_cons, List.take_zero, Option.some.injEq, EV.u.injEq, tCAS, cx, objs]
  refine ⟨?_, nomore_mem⟩
  rintro ps hl ⟨l, s, k, a, o, n, h, N, rfl, h1, h2, h3⟩ he
  injection he with he; subst he
  simp only [Tree.sat, Bx.den, Ex.den, Bnd.den, gI, gB, gL, gF, gN, gNil, List.map_cons, List.map_nil, List.cons_append, List.nil_append, List.getElem?_cons_zero, List.getElem?_cons_succ, List.getD, Option.getD_some, cmp_eql_t, cmp_eql_f, cmp_neq_t, cmp_neq_f, cmp_lss_t, cmp_lss_f, cmp_leq_t, cmp_leq_f, cmp_gtr_t, cmp_gtr_f, cmp_geq_t, cmp_geq_f, Bool.not_eq_true', Bool.not_eq_false', Bool.and_eq_true, Bool.and_eq_false_iff, binDen, ctrR, Ctr.may, List.take_succ_cons, List.take_zero, Option.some.injEq, EV.u.injEq, memT, memObj, cCAS, List.length_set]
  have hout : at_ < 0 ∨ s ≤ at_ → (MemSt.mk (l.take s.toNat) k a o n h N).cas at_ x y = ⟨l.take s.toNat, 3, at_, 0, 0, false, IntKind.i64.wrap (N + 1)⟩ := fun g => by
    unfold MemSt.cas
    split <;> exact mem_out h1 h2 h3 g
  refine ⟨fun g => ⟨memOk_mk h1 h2 h3, ?_⟩, fun g => ⟨fun g2 => ⟨memOk_mk h1 h2 h3, ?_⟩, fun g2 => ⟨by omega, by omega, by omega, by omega, fun g3 => ⟨by omega, by omega, by omega, by omega, memOk_mk (by simpa using h1) h2 h3, ?_⟩, fun g3 => ⟨by omega, by omega, by omega, by omega, by omega, by omega, memOk_mk (by simpa using h1) h2 h3, ?_⟩⟩⟩⟩
  · rw [hout (.inl g)]
  · rw [hout (.inr g2)]
  · rw [MemSt.cas, mem_word (by omega) (by omega), if_pos g3, mem_in h1 h3 (by omega) (by omega)]
  · rw [MemSt.cas, mem_word (by omega) (by omega), if_neg g3, mem_in h1 h3 (by omega) (by omega)]
set_option maxHeartbeats 1000000 in
theorem vNew (P : Program) : ∀ ins, ins.length = cNew.nin → cNew.pre ins → tNew.sat (cx P []) (ctrR cNew) ins := by
  rintro ins _ ⟨n, rfl⟩
  unfold tNew
  simp only [Tree.sat, Bx.den, Ex.den, Bnd.den, gI, gB, gL, gF, gN, gNil, List.map_cons, List.map_nil, List.cons_append, List.nil_append, List.getElem?_cons_zero, List.getElem?_cons_succ, List.getD, Option.getD_some, cmp_eql_t, cmp_eql_f, cmp_neq_t, cmp_neq_f, cmp_lss_t, cmp_lss_f, cmp_leq_t, cmp_leq_f, cmp_gtr_t, cmp_gtr_f, cmp_geq_t, cmp_geq_f, Bool.not_eq_true', Bool.not_eq_false', Bool.and_eq_true, Bool.and_eq_false_iff, binDen, ctrR, Ctr.may, List.take_succ_cons, List.take_zero, Option.some.injEq, EV.u.injEq, memT, memNilT, memObj, cNew, cx, objs, List.length_set]
  refine ⟨fun g => ⟨trivial, ?_⟩, fun g => ⟨fun g2 => ⟨trivial, ?_⟩, fun g2 => ⟨memOk_mk (by rw [List.length_replicate]; rfl) (by omega) (by omega), ?_⟩⟩⟩
  · rw [if_neg (by omega)]
  · rw [if_neg (by omega)]
  · rw [if_pos (by omega), MemSt.new]
    have : (List.replicate (Int.toNat 4096) (0 : Int)).take n.toNat = List.replicate n.toNat 0 := by
      rw [List.take_replicate]
      congr 1
      omega
    rw [this]
theorem noCts {p : Ctr U → Prop} : ∀ (ci : Nat) (c : Ctr U), ([] : List (Ctr U))[ci]? = some c → p c := by
  intro ci c h; simp at h
theorem callable (P : Program) {g : FuncId} {fn : Func} (h : P.funcs[g]? = some fn) (hb : fn.body.isSome = true) (hn : (fn.name == "runtime.NumGoroutine") = false) : Callable P g := by
  cases hb' : fn.body with
  | none => simp [hb'] at hb
  | some c => exact ⟨fn, c, h, hb', hn⟩
theorem hLoad : cLoad.Holds objs Tryz.prog := runCtr_holds (X := cx Tryz.prog []) objsOk mixed noCts (callable _ Tryz.func124 (by kernel_rfl) (by kernel_rfl)) (by rintro ins _ ⟨M, at_, rfl⟩; rfl) (by rw [rLoad]; exact vLoad _)
theorem hStore : cStore.Holds objs Tryz.prog := runCtr_holds (X := cx Tryz.prog []) objsOk mixed noCts (callable _ Tryz.func62 (by kernel_rfl) (by kernel_rfl)) (by rintro ins _ ⟨M, at_, x, rfl⟩; rfl) (by rw [rStore]; exact vStore _)
theorem hCAS : cCAS.Holds objs Tryz.prog := runCtr_holds (X := cx Tryz.prog []) objsOk mixed noCts (callable _ Tryz.func150 (by kernel_rfl) (by kernel_rfl)) (by rintro ins _ ⟨M, at_, x, y, rfl⟩; rfl) (by rw [rCAS]; exact vCAS _)
theorem hNew : cNew.Holds objs Tryz.prog := runCtr_holds (X := cx Tryz.prog []) objsOk mixed noCts (callable _ Tryz.func47 (by kernel_rfl) (by kernel_rfl)) (by rintro ins _ ⟨n, rfl⟩; dsimp only [cNew]; split <;> rfl) (by rw [rNew]; exact vNew _)
end Go.Proofs.YtdabdbbgaekmdaaGreat
namespace Go.Proofs.YtdabdbbgaekmdaaGreat
set_option linter.unusedVariables false
set_option linter.unusedSimpArgs false
set_option linter.unusedSectionVars false
open Go
def cWords : Ctr U :=
  { fn := 27, nin := 1, args := [.hnd 0], heap := [.abs 0]
    pre := fun ins => ∃ M, ins = [.u (.mem M)], nout := 3
    out := fun ins => match ins with | [.u (.mem M)] => [.u (.mem M), .l M.W, .i M.W.length] | _ => []
    ret := .slice 1 (.var 3) (.var 3), post := [.abs 1, .row .u64 55 2] }
def lWords : LoopS U :=
  { fn := 27, rid := 5, nv := 2, tm := [(31, .int .i64 (.var 10))], hp := [(2, .row .u64 55 11)], reb := []
    inv := fun env => ∃ k xs, env.drop 10 = [.i k, .l xs] ∧ 0 ≤ k ∧ k ≤ gI env 2 ∧ xs = (gL env 1).take k.toNat ++ List.replicate (gI env 2 - k).toNat 0
    mu := fun env => (gI env 2 - gI env 10).toNat }
def lSameWords : LoopS U :=
  { fn := 26, rid := 3, nv := 2, tm := [(5, .bool (.var 7)), (6, .int .i64 (.var 6))], hp := [], reb := []
    inv := fun env => ∃ k b, env.drop 6 = [.i k, .b b] ∧ 0 ≤ k ∧ k ≤ gI env 2 ∧ (b = true → gI env 2 = gI env 4 ∧ (gL env 0).take k.toNat = (gL env 1).take k.toNat) ∧ (b = false → (gL env 0).take (gI env 2).toNat ≠ (gL env 1).take (gI env 4).toNat)
    mu := fun env => (gI env 2 - gI env 6).toNat + if gB env 7 then 1 else 0 }
def cPick : Ctr U :=
  { fn := 7, nin := 2, args := [.int .i64 (.var 0), .int .i64 (.var 1)], heap := []
    pre := fun ins => ∃ x n, ins = [.i x, .i n] ∧ 0 < n ∧ n < 2 ^ 62, nout := 1
    out := fun ins => match ins with | [.i x, .i n] => [.i (x.emod n)] | _ => []
    ret := .int .i64 (.var 2), post := [] }
def cxW (P : Program) : Cx U := { cx P [] with loops := [lWords, lSameWords] }
end Go.Proofs.YtdabdbbgaekmdaaGreat
namespace Go.Proofs.YtdabdbbgaekmdaaGreat
set_option linter.unusedVariables false
set_option linter.unusedSimpArgs false
set_option linter.unusedSectionVars false
open Go
set_option maxRecDepth 100000
def tWords : Tree := (.and (.opn 0 0 (.need (.cmp .leq (.lit 0) (.var 2)) (.need (.cmp .leq (.var 2) (.lit 1000000)) (.ext (.repl (.var 2) (.lit 0)) (.need (.cmp .leq (.lit 0) (.var 2)) (.need (.cmp .leq (.var 2) (.lit 4096)) (.need (.cmp .lss (.lit 0) (.len 1)) (.need (.cmp .leq (.lit 0) (.var 2)) (.loop 0 10 [.ex (.lit 0), .var 9] (.br (.cmp .lss (.var 10) (.var 2))
 (.need (.cmp .leq (.lit 0) (.var 10)) (.need (.cmp .lss (.var 10) (.var 2)) (.need (.cmp .lss (.var 10) (.len 1)) (.need (.cmp .leq (.lit 0) (.var 10)) (.need (.cmp .lss (.var 10) (.len 1)) (.need (.cmp .leq (.lit 0) (.var 10)) (.need (.cmp .lss (.var 10) (.var 2)) (.need (.cmp .lss (.var 10) (.len 11)) (.need (.cmp .leq (.lit 0) (.var 10)) (.need (.cmp .lss (.var 10) (.len 11)) (.ext (.setl 11 (.var 10) (.nth 1 (.var 10))) (.back 0 10 [.ex (.bin .add .i64 (.var 10) (.lit 1)), .var 12]))))))))))))
 (.ext (.mk 0 [.var 1, .ex (.var 2), .ex (.var 3), .ex (.var 4), .ex (.var 5), .ex (.var 6), .bx (.var 7), .ex (.var 8)]) (.ret [.var 12, .var 11, .ex (.var 2)]))))))))))))
 (.nomore 0 [0]))
theorem rWords : runCtr (cxW Tryz.prog) 20 cWords [(0, [0])] [(0, [0])] = tWords := by kernel_rfl
def tPick : Tree := (.br (.cmp .leq (.var 1) (.lit 0))
 (.ret [.ex (.lit 0)])
 (.need (.cmp .neq (.var 1) (.lit 0)) (.br (.cmp .lss (.bin .rem .i64 (.var 0) (.var 1)) (.lit 0))
 (.ret [.ex (.bin .add .i64 (.bin .rem .i64 (.var 0) (.var 1)) (.var 1))])
 (.ret [.ex (.bin .rem .i64 (.var 0) (.var 1))]))))
theorem rPick : runCtr (cxW Tryz.prog) 20 cPick [] [] = tPick := by kernel_rfl
end Go.Proofs.YtdabdbbgaekmdaaGreat
namespace Go.Proofs.YtdabdbbgaekmdaaGreat
set_option linter.unusedVariables false
set_option linter.unusedSimpArgs false
set_option linter.unusedSectionVars false
open Go
theorem wrap_small {n : Int} (h1 : -(2:Int) ^ 62 ≤ n) (h2 : n < 2 ^ 62) : IntKind.i64.wrap n = n := by
  rw [IntKind.wrap_i64]; omega
theorem fill_step {l : List Int} {k n : Nat} (h1 : k < n) (h2 : n ≤ l.length) : (l.take k ++ List.replicate (n - k) 0).set k (l[k]?.getD 0) = l.take (k + 1) ++ List.replicate (n - (k + 1)) 0 := by
  rw [List.set_append_right _ _ (by simp; omega)]
  have e : n - k = (n - (k + 1)) + 1 := by omega
  have e2 : k - (l.take k).length = 0 := by simp; omega
  rw [e, List.replicate_succ, e2, List.set_cons_zero, List.getElem?_eq_getElem (by omega), List.take_add_one, List.append_assoc]
  simp [List.getElem?_eq_getElem (show k < l.length by omega)]
set_option maxHeartbeats 1000000 in
theorem vWords (P : Program) : ∀ ins, ins.length = cWords.nin → cWords.pre ins → tWords.sat (cxW P) (ctrR cWords) ins := by
  rintro ins _ ⟨M, rfl⟩
  simp only [Tree.sat, Bx.den, Ex.den, Bnd.den, gI, gB, gL, gF, gN, gNil, List.map_cons, List.map_nil, List.cons_append, List.nil_append, List.getElem?_cons_zero, List.getElem?_cons_succ, List.getD, Option.getD_some, cmp_eql_t, cmp_eql_f, cmp_neq_t, cmp_neq_f, cmp_lss_t, cmp_lss_f, cmp_leq_t, cmp_leq_f, cmp_gtr_t, cmp_gtr_f, cmp_geq_t, cmp_geq_f, Bool.not_eq_true', Bool.not_eq_false', Bool.and_eq_true, Bool.and_eq_false_iff, binDen, ctrR, Ctr.may, List.take_succ_cons, List.take_zero, Option.some.injEq, EV.u.injEq, tWords, cxW, cx, objs]
  refine ⟨?_, nomore_mem⟩
  rintro ps hl ⟨l, s, k, a, o, n, h, N, rfl, h1, h2, h3⟩ he
  injection he with he; subst he
  simp only [Tree.sat, Bx.den, Ex.den, Bnd.den, gI, gB, gL, gF, gN, gNil, List.map_cons, List.map_nil, List.cons_append, List.nil_append, List.getElem?_cons_zero, List.getElem?_cons_succ, List.getD, Option.getD_some, cmp_eql_t, cmp_eql_f, cmp_neq_t, cmp_neq_f, cmp_lss_t, cmp_lss_f, cmp_leq_t, cmp_leq_f, cmp_gtr_t, cmp_gtr_f, cmp_geq_t, cmp_geq_f, Bool.not_eq_true', Bool.not_eq_false', Bool.and_eq_true, Bool.and_eq_false_iff, binDen, ctrR, Ctr.may, List.take_succ_cons, List.take_zero, Option.some.injEq, EV.u.injEq, memT, memObj, cWords, lWords]
  repeat (refine ⟨by omega, ?_⟩)
  refine ⟨⟨0, _, rfl, by omega, by omega, by simp⟩, ?_⟩
  rintro fr hfr ⟨k', xs, hk, h4, h5, h6⟩
  simp only [List.drop_succ_cons, List.drop_zero] at hk
  subst hk
  have hxl : (xs.length : Int) = s := by rw [h6]; simp; omega
  simp only [Tree.sat, Bx.den, Ex.den, Bnd.den, gI, gB, gL, gF, gN, gNil, List.map_cons, List.map_nil, List.cons_append, List.nil_append, List.getElem?_cons_zero, List.getElem?_cons_succ, List.getD, Option.getD_some, cmp_eql_t, cmp_eql_f, cmp_neq_t, cmp_neq_f, cmp_lss_t, cmp_lss_f, cmp_leq_t, cmp_leq_f, cmp_gtr_t, cmp_gtr_f, cmp_geq_t, cmp_geq_f, Bool.not_eq_true', Bool.not_eq_false', Bool.and_eq_true, Bool.and_eq_false_iff, binDen, ctrR, Ctr.may, List.take_succ_cons, List.take_zero, Option.some.injEq, EV.u.injEq, memT, memObj, cWords, lWords]
  refine ⟨fun g => ?_, fun g => ⟨memOk_mk h1 h2 h3, ?_⟩⟩
  · repeat (refine ⟨by omega, ?_⟩)
    refine ⟨?_, ?_⟩
    · rw [wrap_small (by omega) (by omega)]
      refine ⟨k' + 1, _, rfl, by omega, by omega, ?_⟩
      rw [h6, show (s - k').toNat = s.toNat - k'.toNat by omega, fill_step (by omega) (by omega)]
      congr 2 <;> omega
    · rw [wrap_small (by omega) (by omega)]
      omega
  · obtain rfl : k' = s := by omega
    simp [h6]
    omega
set_option maxHeartbeats 1000000 in
theorem tmod_cases (x n : Int) (h : 0 < n) : -n < x.tmod n ∧ x.tmod n < n ∧ (x.tmod n < 0 → x.tmod n + n = x.emod n) ∧ (0 ≤ x.tmod n → x.tmod n = x.emod n) := by
  have h1 := Int.tmod_eq_emod (a := x) (b := n)
  have h2 := Int.emod_nonneg x (Int.ne_of_gt h)
  have h3 := Int.emod_lt_of_pos x h
  have h5 : x.emod n = x % n := rfl
  rw [h5]
  split at h1
  · exact ⟨by omega, by omega, by omega, by omega⟩
  · rename_i hc
    have h4 : x % n ≠ 0 := fun e => hc (.inr (Int.dvd_of_emod_eq_zero e))
    exact ⟨by omega, by omega, by omega, by omega⟩
set_option maxHeartbeats 1000000 in
theorem vPick (P : Program) : ∀ ins, ins.length = cPick.nin → cPick.pre ins → tPick.sat (cxW P) (ctrR cPick) ins := by
  rintro ins _ ⟨x, n, rfl, h1, h2⟩
  simp only [Tree.sat, Bx.den, Ex.den, Bnd.den, gI, gB, gL, gF, gN, gNil, List.map_cons, List.map_nil, List.cons_append, List.nil_append, List.getElem?_cons_zero, List.getElem?_cons_succ, List.getD, Option.getD_some, cmp_eql_t, cmp_eql_f, cmp_neq_t, cmp_neq_f, cmp_lss_t, cmp_lss_f, cmp_leq_t, cmp_leq_f, cmp_gtr_t, cmp_gtr_f, cmp_geq_t, cmp_geq_f, Bool.not_eq_true', Bool.not_eq_false', Bool.and_eq_true, Bool.and_eq_false_iff, binDen, ctrR, Ctr.may, List.take_succ_cons, List.take_zero, Option.some.injEq, EV.u.injEq, tPick, cxW, cx, objs, cPick]
  obtain ⟨h3, h4, h5, h6⟩ := tmod_cases x n h1
  refine ⟨fun g => by omega, fun g => ⟨by omega, fun g2 => ?_, fun g2 => ?_⟩⟩
  · rw [wrap_small (by omega) (by omega), h5 g2]
  · rw [h6 g2]
theorem hWords : cWords.Holds objs Tryz.prog := runCtr_holds (X := cxW Tryz.prog) objsOk mixed noCts (callable _ Tryz.func27 (by kernel_rfl) (by kernel_rfl)) (by rintro ins _ ⟨M, rfl⟩; rfl) (by rw [rWords]; exact vWords _)
theorem hPick : cPick.Holds objs Tryz.prog := runCtr_holds (X := cxW Tryz.prog) objsOk mixed noCts (callable _ Tryz.func7 (by kernel_rfl) (by kernel_rfl)) (by rintro ins _ ⟨x, n, rfl, _⟩; rfl) (by rw [rPick]; exact vPick _)
end Go.Proofs.YtdabdbbgaekmdaaGreat
namespace Go.Proofs.YtdabdbbgaekmdaaGreat
set_option linter.unusedVariables false
set_option linter.unusedSimpArgs false
set_option linter.unusedSectionVars false
open Go
section
variable {M : MemSt} {at_ x y : Int}
end
def cQStore : Ctr U :=
  { fn := 63, nin := 3, args := [.hnd 0, .int .i64 (.var 1), .int .u64 (.var 2)], heap := [.abs 0]
    pre := fun ins => ∃ M at_ x, ins = [.u (.rmem M), .i at_, .i x] ∧ M.W.length ≤ 4096, nout := 1
    out := fun ins => match ins with | [.u (.rmem M), .i at_, .i x] => [.u (.rmem (M.store at_ x))] | _ => []
    ret := .tuple [], post := [.abs 3] }
end Go.Proofs.YtdabdbbgaekmdaaGreat
namespace Go.Proofs.YtdabdbbgaekmdaaGreat
set_option linter.unusedVariables false
set_option linter.unusedSimpArgs false
set_option linter.unusedSectionVars false
open Go
set_option maxRecDepth 100000
end Go.Proofs.YtdabdbbgaekmdaaGreat
namespace Go.Proofs.YtdabdbbgaekmdaaGreat
set_option linter.unusedVariables false
set_option linter.unusedSimpArgs false
set_option linter.unusedSectionVars false
open Go
end Go.Proofs.YtdabdbbgaekmdaaGreat
