/- The states of objects, as plain data: memories; what accesses do to them. No program is named here. -/
import Derived.Test.YtbmbiiiacajolaaGreatSr
namespace Go.Proofs.YtbmbiiiacajolaaGreat
set_option linter.unusedVariables false
set_option linter.unusedSimpArgs false
set_option linter.unusedSectionVars false
open Go

theorem cmp_eql_t (x y : Int) : (cmpDen .eql x y = true) = (x = y) := by simp [cmpDen]
theorem cmp_eql_f (x y : Int) : (cmpDen .eql x y = false) = (x ≠ y) := by simp [cmpDen]
theorem cmp_neq_t (x y : Int) : (cmpDen .neq x y = true) = (x ≠ y) := by simp [cmpDen]
theorem cmp_neq_f (x y : Int) : (cmpDen .neq x y = false) = (x = y) := by simp [cmpDen]
theorem cmp_lss_t (x y : Int) : (cmpDen .lss x y = true) = (x < y) := by simp [cmpDen]
theorem cmp_lss_f (x y : Int) : (cmpDen .lss x y = false) = (y ≤ x) := by simp [cmpDen]
theorem cmp_leq_t (x y : Int) : (cmpDen .leq x y = true) = (x ≤ y) := by simp [cmpDen]
theorem cmp_leq_f (x y : Int) : (cmpDen .leq x y = false) = (y < x) := by simp [cmpDen]
theorem cmp_gtr_t (x y : Int) : (cmpDen .gtr x y = true) = (y < x) := by simp [cmpDen]
theorem cmp_gtr_f (x y : Int) : (cmpDen .gtr x y = false) = (x ≤ y) := by simp [cmpDen]
theorem cmp_geq_t (x y : Int) : (cmpDen .geq x y = true) = (y ≤ x) := by simp [cmpDen]
theorem cmp_geq_f (x y : Int) : (cmpDen .geq x y = false) = (x < y) := by simp [cmpDen]

/-- a memory: its words, its last access, how many there were -/
structure MemSt where
  W : List Int
  k : Int
  a : Int
  o : Int
  n : Int
  h : Bool
  N : Int

namespace MemSt
def is (M : MemSt) (at_ : Int) : Bool := decide (0 ≤ at_ ∧ at_ < M.W.length)
def word (M : MemSt) (at_ : Int) : Int := M.W.getD at_.toNat 0
/-- an access: what is there then, is it written? -/
def acc (M : MemSt) (kind at_ w : Int) (held : Bool) : MemSt :=
  if M.is at_ then ⟨M.W.set at_.toNat w, kind, at_, M.word at_, w, held, IntKind.i64.wrap (M.N + 1)⟩
  else ⟨M.W, kind, at_, 0, 0, false, IntKind.i64.wrap (M.N + 1)⟩
def load (M : MemSt) (at_ : Int) : MemSt := M.acc 1 at_ (M.word at_) false
def store (M : MemSt) (at_ w : Int) : MemSt := M.acc 2 at_ w true
def cas (M : MemSt) (at_ x y : Int) : MemSt := if M.word at_ = x then M.acc 3 at_ y true else M.acc 3 at_ (M.word at_) false
def add (M : MemSt) (at_ x : Int) : MemSt := M.acc 4 at_ (IntKind.u64.wrap (M.word at_ + x)) true
def new (n : Int) : MemSt := ⟨List.replicate n.toNat 0, 0, 0, 0, 0, false, 0⟩
end MemSt

/-- a Find in a tower: the tower (13 numbers), its key, its line (1 to 4; 9: it has ended), its level, the pred and the ref by which it is known, the words that it looks at, what was told of levels, by which ref its last step was -/
structure FindSt where
  t : List Int
  key : Int
  line : Int
  l : Int
  pred : Int
  ref : Int
  cur : Int
  w : Int
  P : List Int
  S : List Int
  K : List Int
  r : Int
/-- what is not looked at again is left out -/
def FindSt.norm (F : FindSt) : FindSt :=
  ⟨F.t, F.key, F.line, if F.line = 9 then 0 else F.l, if F.line = 9 then 0 else F.pred, if F.line = 9 then 0 else F.ref, if F.line = 9 ∨ F.line = 1 then 0 else F.cur, if F.line = 3 ∨ F.line = 4 then F.w else 0, F.P, F.S, F.K, F.r⟩

/-- the objects of this proof -/
inductive U where
  | bad
  | mem (M : MemSt)
  | memNil
  | memZero
  | rmem (M : MemSt)
  | rmemNil
  | find (F : FindSt)
  | findNil
  | rfind (F : FindSt)
  | rfindNil
instance : Nil U := ⟨fun s => match s with | .memNil | .rmemNil | .findNil | .rfindNil => true | _ => false⟩
def vI : Option (EV U) → Int | some (.i n) => n | _ => 0
def vB : Option (EV U) → Bool | some (.b x) => x | _ => false
def vL : Option (EV U) → List Int | some (.l x) => x | _ => []
def vF : Option (EV U) → Nat → Nat → Int | some (.f g _) => g | _ => fun _ _ => 0
def vN : Option (EV U) → Nat | some (.f _ n) => n | _ => 0
def vU : Option (EV U) → Bool | some (.u s) => Nil.isNil s | _ => false
/-- rules of a walk, in one -/
theorem dn : (∀ (α β : Type) (f : α → β) (a : α) (l : List α), (a :: l).map f = f a :: l.map f) ∧ (∀ (α β : Type) (f : α → β), ([] : List α).map f = []) ∧ (∀ (α : Type) (a : α) (l m : List α), a :: l ++ m = a :: (l ++ m)) ∧ (∀ (α : Type) (l : List α), [] ++ l = l) ∧ (∀ (α : Type) (a : α) (l : List α), (a :: l)[0]? = some a) ∧ (∀ (α : Type) (a : α) (l : List α) (i : Nat), (a :: l)[i + 1]? = l[i]?) ∧ (∀ (α : Type) (a b : α), (some a).getD b = a) ∧ (∀ x y : Int, (cmpDen .eql x y = true) = (x = y)) ∧ (∀ x y : Int, (cmpDen .eql x y = false) = (x ≠ y)) ∧ (∀ x y : Int, (cmpDen .neq x y = true) = (x ≠ y)) ∧ (∀ x y : Int, (cmpDen .neq x y = false) = (x = y)) ∧ (∀ x y : Int, (cmpDen .lss x y = true) = (x < y)) ∧ (∀ x y : Int, (cmpDen .lss x y = false) = (y ≤ x)) ∧ (∀ x y : Int, (cmpDen .leq x y = true) = (x ≤ y)) ∧ (∀ x y : Int, (cmpDen .leq x y = false) = (y < x)) ∧ (∀ x y : Int, (cmpDen .gtr x y = true) = (y < x)) ∧ (∀ x y : Int, (cmpDen .gtr x y = false) = (x ≤ y)) ∧ (∀ x y : Int, (cmpDen .geq x y = true) = (y ≤ x)) ∧ (∀ x y : Int, (cmpDen .geq x y = false) = (x < y)) ∧ (∀ b : Bool, ((!b) = true) = (b = false)) ∧ (∀ b : Bool, ((!b) = false) = (b = true)) ∧ (∀ a b : Bool, ((a && b) = true) = (a = true ∧ b = true)) ∧ (∀ a b : Bool, ((a && b) = false) = (a = false ∨ b = false)) ∧ (∀ (α : Type) (a b : α), (some a = some b) = (a = b)) ∧ (∀ p : Prop, (p ∧ p) = p) ∧ (∀ p : Prop, (True ∧ p) = p) ∧ (∀ p : Prop, (p ∧ True) = p) ∧ (∀ p : Prop, (p ∨ False) = p) ∧ (∀ p : Prop, (False ∨ p) = p) ∧ (∀ p : Prop, (p ∨ p) = p) ∧ (∀ (V : Type) (a b : V), (EV.u a = EV.u b) = (a = b)) ∧ ((¬ True) = False) ∧ ((¬ False) = True) ∧ ((true = false) = False) ∧ ((false = true) = False) ∧ (∀ (α : Type) (a b : α), (a ≠ b) = ¬ a = b) ∧ (∀ a : Int, (a == a) = true) ∧ (∀ a : Bool, (a == a) = true) ∧ (∀ (e : List (EV U)) (n : Int), Ex.den e (.lit n) = n) ∧ (∀ (e : List (EV U)) (i : Nat), Ex.den e (.var i) = gI e i) ∧ (∀ (e : List (EV U)) (o : BinOp) (k : IntKind) (a b : Ex), Ex.den e (.bin o k a b) = binDen o k (a.den e) (b.den e)) ∧ (∀ (e : List (EV U)) (k : IntKind) (a : Ex), Ex.den e (.conv k a) = k.wrap (a.den e)) ∧ (∀ (e : List (EV U)) (i : Nat), Ex.den e (.len i) = ((gL e i).length : Int)) ∧ (∀ (e : List (EV U)) (i : Nat) (a : Ex), Ex.den e (.nth i a) = (gL e i).getD (a.den e).toNat 0) ∧ (∀ (e : List (EV U)) (i : Nat) (a : Ex) (c : Nat), Ex.den e (.fld i a c) = gF e i (a.den e).toNat c) ∧ (∀ (e : List (EV U)) (i : Nat), Ex.den e (.nrow i) = (gN e i : Int)) ∧ (∀ (e : List (EV U)) (b : Bool), Bx.den e (.lit b) = b) ∧ (∀ (e : List (EV U)) (i : Nat), Bx.den e (.var i) = gB e i) ∧ (∀ (e : List (EV U)) (o : BinOp) (a b : Ex), Bx.den e (.cmp o a b) = cmpDen o (a.den e) (b.den e)) ∧ (∀ (e : List (EV U)) (a b : Bx), Bx.den e (.beq a b) = (a.den e == b.den e)) ∧ (∀ (e : List (EV U)) (a : Bx), Bx.den e (.not a) = (!a.den e)) ∧ (∀ (e : List (EV U)) (a b : Bx), Bx.den e (.and a b) = (a.den e && b.den e)) ∧ (∀ (e : List (EV U)) (i : Nat), Bx.den e (.isnil i) = gNil e i) ∧ (∀ (e : List (EV U)) (i : Nat) (a : Ex) (c : Nat), Bx.den e (.fld i a c) = (gF e i (a.den e).toNat c != 0)) ∧ (∀ (e : List (EV U)) (i : Nat) (a : Ex), Bx.den e (.mem i a) = decide (a.den e ∈ gL e i)) ∧ (∀ (e : List (EV U)) (a : Ex), Bnd.den e (.ex a) = .i (a.den e)) ∧ (∀ (e : List (EV U)) (b : Bx), Bnd.den e (.bx b) = .b (b.den e)) ∧ (∀ (e : List (EV U)) (i : Nat), Bnd.den e (.var i) = e.getD i (.i 0)) ∧ (∀ (e : List (EV U)) (i : Nat), gI e i = vI e[i]?) ∧ (∀ (n : Int), vI (some (.i n)) = n) ∧ (∀ (e : List (EV U)) (i : Nat), gB e i = vB e[i]?) ∧ (∀ (x : Bool), vB (some (.b x)) = x) ∧ (∀ (e : List (EV U)) (i : Nat), gL e i = vL e[i]?) ∧ (∀ (x : List Int), vL (some (.l x)) = x) ∧ (∀ (e : List (EV U)) (i : Nat), gF e i = vF e[i]?) ∧ (∀ (g : Nat → Nat → Int) (n : Nat), vF (some (.f g n)) = g) ∧ (∀ (e : List (EV U)) (i : Nat), gN e i = vN e[i]?) ∧ (∀ (g : Nat → Nat → Int) (n : Nat), vN (some (.f g n)) = n) ∧ (∀ (e : List (EV U)) (i : Nat), gNil e i = vU e[i]?) ∧ (∀ (s : U), vU (some (.u s)) = Nil.isNil s) ∧ (∀ s : U, Nil.isNil s = match s with | .memNil | .rmemNil | .findNil | .rfindNil => true | _ => false) ∧ (∀ (α : Type) (l : List α) (i : Nat) (d : α), l.getD i d = l[i]?.getD d) ∧ (∀ (α : Type) (n : Nat) (a : α) (l : List α), (a :: l).take (n + 1) = a :: l.take n) ∧ (∀ (α : Type) (l : List α), l.take 0 = []) ∧ (∀ (k : IntKind) (x y : Int), binDen .add k x y = k.wrap (x + y)) ∧ (∀ (k : IntKind) (x y : Int), binDen .sub k x y = k.wrap (x - y)) ∧ (∀ (k : IntKind) (x y : Int), binDen .mul k x y = k.wrap (x * y)) ∧ (∀ (k : IntKind) (x y : Int), binDen .quo k x y = k.wrap (x.tdiv y)) ∧ (∀ (k : IntKind) (x y : Int), binDen .rem k x y = x.tmod y) ∧ (∀ (k : IntKind) (x y : Int), binDen .and k x y = bits .and k x y) ∧ (∀ (k : IntKind) (x y : Int), binDen .or k x y = bits .or k x y) ∧ (∀ (k : IntKind) (x y : Int), binDen .xor k x y = bits .xor k x y) ∧ (∀ (k : IntKind) (x y : Int), binDen .andNot k x y = bits .andNot k x y) ∧ (∀ (k : IntKind) (x y : Int), binDen .shl k x y = k.wrap (x * 2 ^ min y.toNat k.bits)) ∧ (∀ (k : IntKind) (x y : Int), binDen .shr k x y = x.fdiv (2 ^ min y.toNat k.bits)) :=
  ⟨fun _ _ _ _ _ => rfl, fun _ _ _ => rfl, fun _ _ _ _ => rfl, fun _ _ => rfl, fun _ _ _ => rfl, fun _ _ _ _ => List.getElem?_cons_succ, fun _ _ _ => rfl, cmp_eql_t, cmp_eql_f, cmp_neq_t, cmp_neq_f, cmp_lss_t, cmp_lss_f, cmp_leq_t, cmp_leq_f, cmp_gtr_t, cmp_gtr_f, cmp_geq_t, cmp_geq_f, fun b => Bool.not_eq_true' b, fun b => Bool.not_eq_false' b, Bool.and_eq_true, fun a b => propext (Bool.and_eq_false_iff), fun _ _ _ => Option.some.injEq _ _, and_self, true_and, and_true, or_false, false_or, or_self, fun _ _ _ => EV.u.injEq _ _, not_true_eq_false, not_false_eq_true, Bool.true_eq_false, Bool.false_eq_true, fun _ _ _ => rfl, fun _ => beq_self_eq_true _, fun _ => beq_self_eq_true _, fun _ _ => rfl, fun _ _ => rfl, fun _ _ _ _ _ => rfl, fun _ _ _ => rfl, fun _ _ => rfl, fun _ _ _ => rfl, fun _ _ _ _ => rfl, fun _ _ => rfl, fun _ _ => rfl, fun _ _ => rfl, fun _ _ _ _ => rfl, fun _ _ _ => rfl, fun _ _ => rfl, fun _ _ _ => rfl, fun _ _ => rfl, fun _ _ _ _ => rfl, fun _ _ _ => rfl, fun _ _ => rfl, fun _ _ => rfl, fun _ _ => rfl, fun e i => by unfold gI; rcases e[i]? with _ | (_ | _ | _ | _ | _ | _) <;> rfl, fun _ => rfl, fun e i => by unfold gB; rcases e[i]? with _ | (_ | _ | _ | _ | _ | _) <;> rfl, fun _ => rfl, fun e i => by unfold gL; rcases e[i]? with _ | (_ | _ | _ | _ | _ | _) <;> rfl, fun _ => rfl, fun e i => by unfold gF; rcases e[i]? with _ | (_ | _ | _ | _ | _ | _) <;> rfl, fun _ _ => rfl, fun e i => by unfold gN; rcases e[i]? with _ | (_ | _ | _ | _ | _ | _) <;> rfl, fun _ _ => rfl, fun e i => by unfold gNil; rcases e[i]? with _ | (_ | _ | _ | _ | _ | _) <;> rfl, fun _ => rfl, fun _ => rfl, fun _ _ _ _ => rfl, fun _ _ _ _ => rfl, fun _ _ => rfl, fun _ _ _ => rfl, fun _ _ _ => rfl, fun _ _ _ => rfl, fun _ _ _ => rfl, fun _ _ _ => rfl, fun _ _ _ => rfl, fun _ _ _ => rfl, fun _ _ _ => rfl, fun _ _ _ => rfl, fun _ _ _ => rfl, fun _ _ _ => rfl⟩
/-- which kind of object is it? -/
def U.kind : U → Nat
  | .bad => 0
  | .mem _ => 1
  | .memNil => 2
  | .memZero => 3
  | .rmem _ => 4
  | .rmemNil => 5
  | .find _ => 6
  | .findNil => 7
  | .rfind _ => 8
  | .rfindNil => 9

/-! ### forms -/
def memOk (ps : List (EV U)) : Prop := ∃ l s k a o n h N, ps = [.l l, .i s, .i k, .i a, .i o, .i n, .b h, .i N] ∧ l.length = 4096 ∧ 0 ≤ s ∧ s ≤ 4096
def memObj (ps : List (EV U)) : U :=
  match ps with
  | [.l l, .i s, .i k, .i a, .i o, .i n, .b h, .i N] => .mem ⟨l.take s.toNat, k, a, o, n, h, N⟩
  | _ => .bad
def rmemOk (ps : List (EV U)) : Prop := ∃ l s k a o n h N, ps = [.l l, .i s, .i k, .i a, .i o, .i n, .b h, .i N] ∧ (l.length : Int) = s
def rmemObj (ps : List (EV U)) : U :=
  match ps with
  | [.l l, .i _, .i k, .i a, .i o, .i n, .b h, .i N] => .rmem ⟨l, k, a, o, n, h, N⟩
  | _ => .bad
def isWd (x : Int) : Prop := 0 ≤ x ∧ x < 18446744073709551616
def find10Ok (ps : List (EV U)) : Prop := ∃ a0 a1 a3 a4 a5 a6 a7 a8 a9 a10 a11 a12 key line pred ref cur w r v0 p0 k0 s0, ps = [.i a0, .i a1, .i a3, .i a4, .i a5, .i a6, .i a7, .i a8, .i a9, .i a10, .i a11, .i a12, .i key, .i line, .i pred, .i ref, .i cur, .i w, .i r, .i v0, .i p0, .i k0, .i s0] ∧ (line = 1 ∨ line = 2 ∨ line = 3 ∨ line = 4 ∨ line = 9) ∧ isWd cur ∧ isWd w
def find10Obj (ps : List (EV U)) : U := match ps with | .i a0 :: .i a1 :: .i a3 :: .i a4 :: .i a5 :: .i a6 :: .i a7 :: .i a8 :: .i a9 :: .i a10 :: .i a11 :: .i a12 :: .i key :: .i line :: .i pred :: .i ref :: .i cur :: .i w :: .i r :: .i v0 :: .i p0 :: .i k0 :: .i s0 :: [] => .find (FindSt.norm ⟨[a0, a1, 1, a3, a4, a5, a6, a7, a8, a9, a10, a11, a12], key, line, 0, pred, ref, cur, w, [p0], [s0], [k0], r⟩) | _ => .bad
def find20Ok (ps : List (EV U)) : Prop := ∃ a0 a1 a3 a4 a5 a6 a7 a8 a9 a10 a11 a12 key line pred ref cur w r v0 p0 k0 s0 v1 p1 k1 s1, ps = [.i a0, .i a1, .i a3, .i a4, .i a5, .i a6, .i a7, .i a8, .i a9, .i a10, .i a11, .i a12, .i key, .i line, .i pred, .i ref, .i cur, .i w, .i r, .i v0, .i p0, .i k0, .i s0, .i v1, .i p1, .i k1, .i s1] ∧ (line = 1 ∨ line = 2 ∨ line = 3 ∨ line = 4 ∨ line = 9) ∧ isWd cur ∧ isWd w
def find20Obj (ps : List (EV U)) : U := match ps with | .i a0 :: .i a1 :: .i a3 :: .i a4 :: .i a5 :: .i a6 :: .i a7 :: .i a8 :: .i a9 :: .i a10 :: .i a11 :: .i a12 :: .i key :: .i line :: .i pred :: .i ref :: .i cur :: .i w :: .i r :: .i v0 :: .i p0 :: .i k0 :: .i s0 :: .i v1 :: .i p1 :: .i k1 :: .i s1 :: [] => .find (FindSt.norm ⟨[a0, a1, 2, a3, a4, a5, a6, a7, a8, a9, a10, a11, a12], key, line, 0, pred, ref, cur, w, [p0, p1], [s0, s1], [k0, k1], r⟩) | _ => .bad
def find21Ok (ps : List (EV U)) : Prop := ∃ a0 a1 a3 a4 a5 a6 a7 a8 a9 a10 a11 a12 key line pred ref cur w r v0 p0 k0 s0 v1 p1 k1 s1, ps = [.i a0, .i a1, .i a3, .i a4, .i a5, .i a6, .i a7, .i a8, .i a9, .i a10, .i a11, .i a12, .i key, .i line, .i pred, .i ref, .i cur, .i w, .i r, .i v0, .i p0, .i k0, .i s0, .i v1, .i p1, .i k1, .i s1] ∧ (line = 1 ∨ line = 2 ∨ line = 3 ∨ line = 4) ∧ isWd cur ∧ isWd w
def find21Obj (ps : List (EV U)) : U := match ps with | .i a0 :: .i a1 :: .i a3 :: .i a4 :: .i a5 :: .i a6 :: .i a7 :: .i a8 :: .i a9 :: .i a10 :: .i a11 :: .i a12 :: .i key :: .i line :: .i pred :: .i ref :: .i cur :: .i w :: .i r :: .i v0 :: .i p0 :: .i k0 :: .i s0 :: .i v1 :: .i p1 :: .i k1 :: .i s1 :: [] => .find (FindSt.norm ⟨[a0, a1, 2, a3, a4, a5, a6, a7, a8, a9, a10, a11, a12], key, line, 1, pred, ref, cur, w, [p0, p1], [s0, s1], [k0, k1], r⟩) | _ => .bad
def find30Ok (ps : List (EV U)) : Prop := ∃ a0 a1 a3 a4 a5 a6 a7 a8 a9 a10 a11 a12 key line pred ref cur w r v0 p0 k0 s0 v1 p1 k1 s1 v2 p2 k2 s2, ps = [.i a0, .i a1, .i a3, .i a4, .i a5, .i a6, .i a7, .i a8, .i a9, .i a10, .i a11, .i a12, .i key, .i line, .i pred, .i ref, .i cur, .i w, .i r, .i v0, .i p0, .i k0, .i s0, .i v1, .i p1, .i k1, .i s1, .i v2, .i p2, .i k2, .i s2] ∧ (line = 1 ∨ line = 2 ∨ line = 3 ∨ line = 4 ∨ line = 9) ∧ isWd cur ∧ isWd w
def find30Obj (ps : List (EV U)) : U := match ps with | .i a0 :: .i a1 :: .i a3 :: .i a4 :: .i a5 :: .i a6 :: .i a7 :: .i a8 :: .i a9 :: .i a10 :: .i a11 :: .i a12 :: .i key :: .i line :: .i pred :: .i ref :: .i cur :: .i w :: .i r :: .i v0 :: .i p0 :: .i k0 :: .i s0 :: .i v1 :: .i p1 :: .i k1 :: .i s1 :: .i v2 :: .i p2 :: .i k2 :: .i s2 :: [] => .find (FindSt.norm ⟨[a0, a1, 3, a3, a4, a5, a6, a7, a8, a9, a10, a11, a12], key, line, 0, pred, ref, cur, w, [p0, p1, p2], [s0, s1, s2], [k0, k1, k2], r⟩) | _ => .bad
def find31Ok (ps : List (EV U)) : Prop := ∃ a0 a1 a3 a4 a5 a6 a7 a8 a9 a10 a11 a12 key line pred ref cur w r v0 p0 k0 s0 v1 p1 k1 s1 v2 p2 k2 s2, ps = [.i a0, .i a1, .i a3, .i a4, .i a5, .i a6, .i a7, .i a8, .i a9, .i a10, .i a11, .i a12, .i key, .i line, .i pred, .i ref, .i cur, .i w, .i r, .i v0, .i p0, .i k0, .i s0, .i v1, .i p1, .i k1, .i s1, .i v2, .i p2, .i k2, .i s2] ∧ (line = 1 ∨ line = 2 ∨ line = 3 ∨ line = 4) ∧ isWd cur ∧ isWd w
def find31Obj (ps : List (EV U)) : U := match ps with | .i a0 :: .i a1 :: .i a3 :: .i a4 :: .i a5 :: .i a6 :: .i a7 :: .i a8 :: .i a9 :: .i a10 :: .i a11 :: .i a12 :: .i key :: .i line :: .i pred :: .i ref :: .i cur :: .i w :: .i r :: .i v0 :: .i p0 :: .i k0 :: .i s0 :: .i v1 :: .i p1 :: .i k1 :: .i s1 :: .i v2 :: .i p2 :: .i k2 :: .i s2 :: [] => .find (FindSt.norm ⟨[a0, a1, 3, a3, a4, a5, a6, a7, a8, a9, a10, a11, a12], key, line, 1, pred, ref, cur, w, [p0, p1, p2], [s0, s1, s2], [k0, k1, k2], r⟩) | _ => .bad
def find32Ok (ps : List (EV U)) : Prop := ∃ a0 a1 a3 a4 a5 a6 a7 a8 a9 a10 a11 a12 key line pred ref cur w r v0 p0 k0 s0 v1 p1 k1 s1 v2 p2 k2 s2, ps = [.i a0, .i a1, .i a3, .i a4, .i a5, .i a6, .i a7, .i a8, .i a9, .i a10, .i a11, .i a12, .i key, .i line, .i pred, .i ref, .i cur, .i w, .i r, .i v0, .i p0, .i k0, .i s0, .i v1, .i p1, .i k1, .i s1, .i v2, .i p2, .i k2, .i s2] ∧ (line = 1 ∨ line = 2 ∨ line = 3 ∨ line = 4) ∧ isWd cur ∧ isWd w
def find32Obj (ps : List (EV U)) : U := match ps with | .i a0 :: .i a1 :: .i a3 :: .i a4 :: .i a5 :: .i a6 :: .i a7 :: .i a8 :: .i a9 :: .i a10 :: .i a11 :: .i a12 :: .i key :: .i line :: .i pred :: .i ref :: .i cur :: .i w :: .i r :: .i v0 :: .i p0 :: .i k0 :: .i s0 :: .i v1 :: .i p1 :: .i k1 :: .i s1 :: .i v2 :: .i p2 :: .i k2 :: .i s2 :: [] => .find (FindSt.norm ⟨[a0, a1, 3, a3, a4, a5, a6, a7, a8, a9, a10, a11, a12], key, line, 2, pred, ref, cur, w, [p0, p1, p2], [s0, s1, s2], [k0, k1, k2], r⟩) | _ => .bad
def find40Ok (ps : List (EV U)) : Prop := ∃ a0 a1 a3 a4 a5 a6 a7 a8 a9 a10 a11 a12 key line pred ref cur w r v0 p0 k0 s0 v1 p1 k1 s1 v2 p2 k2 s2 v3 p3 k3 s3, ps = [.i a0, .i a1, .i a3, .i a4, .i a5, .i a6, .i a7, .i a8, .i a9, .i a10, .i a11, .i a12, .i key, .i line, .i pred, .i ref, .i cur, .i w, .i r, .i v0, .i p0, .i k0, .i s0, .i v1, .i p1, .i k1, .i s1, .i v2, .i p2, .i k2, .i s2, .i v3, .i p3, .i k3, .i s3] ∧ (line = 1 ∨ line = 2 ∨ line = 3 ∨ line = 4 ∨ line = 9) ∧ isWd cur ∧ isWd w
def find40Obj (ps : List (EV U)) : U := match ps with | .i a0 :: .i a1 :: .i a3 :: .i a4 :: .i a5 :: .i a6 :: .i a7 :: .i a8 :: .i a9 :: .i a10 :: .i a11 :: .i a12 :: .i key :: .i line :: .i pred :: .i ref :: .i cur :: .i w :: .i r :: .i v0 :: .i p0 :: .i k0 :: .i s0 :: .i v1 :: .i p1 :: .i k1 :: .i s1 :: .i v2 :: .i p2 :: .i k2 :: .i s2 :: .i v3 :: .i p3 :: .i k3 :: .i s3 :: [] => .find (FindSt.norm ⟨[a0, a1, 4, a3, a4, a5, a6, a7, a8, a9, a10, a11, a12], key, line, 0, pred, ref, cur, w, [p0, p1, p2, p3], [s0, s1, s2, s3], [k0, k1, k2, k3], r⟩) | _ => .bad
def find41Ok (ps : List (EV U)) : Prop := ∃ a0 a1 a3 a4 a5 a6 a7 a8 a9 a10 a11 a12 key line pred ref cur w r v0 p0 k0 s0 v1 p1 k1 s1 v2 p2 k2 s2 v3 p3 k3 s3, ps = [.i a0, .i a1, .i a3, .i a4, .i a5, .i a6, .i a7, .i a8, .i a9, .i a10, .i a11, .i a12, .i key, .i line, .i pred, .i ref, .i cur, .i w, .i r, .i v0, .i p0, .i k0, .i s0, .i v1, .i p1, .i k1, .i s1, .i v2, .i p2, .i k2, .i s2, .i v3, .i p3, .i k3, .i s3] ∧ (line = 1 ∨ line = 2 ∨ line = 3 ∨ line = 4) ∧ isWd cur ∧ isWd w
def find41Obj (ps : List (EV U)) : U := match ps with | .i a0 :: .i a1 :: .i a3 :: .i a4 :: .i a5 :: .i a6 :: .i a7 :: .i a8 :: .i a9 :: .i a10 :: .i a11 :: .i a12 :: .i key :: .i line :: .i pred :: .i ref :: .i cur :: .i w :: .i r :: .i v0 :: .i p0 :: .i k0 :: .i s0 :: .i v1 :: .i p1 :: .i k1 :: .i s1 :: .i v2 :: .i p2 :: .i k2 :: .i s2 :: .i v3 :: .i p3 :: .i k3 :: .i s3 :: [] => .find (FindSt.norm ⟨[a0, a1, 4, a3, a4, a5, a6, a7, a8, a9, a10, a11, a12], key, line, 1, pred, ref, cur, w, [p0, p1, p2, p3], [s0, s1, s2, s3], [k0, k1, k2, k3], r⟩) | _ => .bad
def find42Ok (ps : List (EV U)) : Prop := ∃ a0 a1 a3 a4 a5 a6 a7 a8 a9 a10 a11 a12 key line pred ref cur w r v0 p0 k0 s0 v1 p1 k1 s1 v2 p2 k2 s2 v3 p3 k3 s3, ps = [.i a0, .i a1, .i a3, .i a4, .i a5, .i a6, .i a7, .i a8, .i a9, .i a10, .i a11, .i a12, .i key, .i line, .i pred, .i ref, .i cur, .i w, .i r, .i v0, .i p0, .i k0, .i s0, .i v1, .i p1, .i k1, .i s1, .i v2, .i p2, .i k2, .i s2, .i v3, .i p3, .i k3, .i s3] ∧ (line = 1 ∨ line = 2 ∨ line = 3 ∨ line = 4) ∧ isWd cur ∧ isWd w
def find42Obj (ps : List (EV U)) : U := match ps with | .i a0 :: .i a1 :: .i a3 :: .i a4 :: .i a5 :: .i a6 :: .i a7 :: .i a8 :: .i a9 :: .i a10 :: .i a11 :: .i a12 :: .i key :: .i line :: .i pred :: .i ref :: .i cur :: .i w :: .i r :: .i v0 :: .i p0 :: .i k0 :: .i s0 :: .i v1 :: .i p1 :: .i k1 :: .i s1 :: .i v2 :: .i p2 :: .i k2 :: .i s2 :: .i v3 :: .i p3 :: .i k3 :: .i s3 :: [] => .find (FindSt.norm ⟨[a0, a1, 4, a3, a4, a5, a6, a7, a8, a9, a10, a11, a12], key, line, 2, pred, ref, cur, w, [p0, p1, p2, p3], [s0, s1, s2, s3], [k0, k1, k2, k3], r⟩) | _ => .bad
def find43Ok (ps : List (EV U)) : Prop := ∃ a0 a1 a3 a4 a5 a6 a7 a8 a9 a10 a11 a12 key line pred ref cur w r v0 p0 k0 s0 v1 p1 k1 s1 v2 p2 k2 s2 v3 p3 k3 s3, ps = [.i a0, .i a1, .i a3, .i a4, .i a5, .i a6, .i a7, .i a8, .i a9, .i a10, .i a11, .i a12, .i key, .i line, .i pred, .i ref, .i cur, .i w, .i r, .i v0, .i p0, .i k0, .i s0, .i v1, .i p1, .i k1, .i s1, .i v2, .i p2, .i k2, .i s2, .i v3, .i p3, .i k3, .i s3] ∧ (line = 1 ∨ line = 2 ∨ line = 3 ∨ line = 4) ∧ isWd cur ∧ isWd w
def find43Obj (ps : List (EV U)) : U := match ps with | .i a0 :: .i a1 :: .i a3 :: .i a4 :: .i a5 :: .i a6 :: .i a7 :: .i a8 :: .i a9 :: .i a10 :: .i a11 :: .i a12 :: .i key :: .i line :: .i pred :: .i ref :: .i cur :: .i w :: .i r :: .i v0 :: .i p0 :: .i k0 :: .i s0 :: .i v1 :: .i p1 :: .i k1 :: .i s1 :: .i v2 :: .i p2 :: .i k2 :: .i s2 :: .i v3 :: .i p3 :: .i k3 :: .i s3 :: [] => .find (FindSt.norm ⟨[a0, a1, 4, a3, a4, a5, a6, a7, a8, a9, a10, a11, a12], key, line, 3, pred, ref, cur, w, [p0, p1, p2, p3], [s0, s1, s2, s3], [k0, k1, k2, k3], r⟩) | _ => .bad
def rfindOk (ps : List (EV U)) : Prop := ∃ a0 a1 a2 a3 a4 a5 a6 a7 a8 a9 a10 a11 a12 key line l pred ref cur w r P S K, ps = [.i a0, .i a1, .i a2, .i a3, .i a4, .i a5, .i a6, .i a7, .i a8, .i a9, .i a10, .i a11, .i a12, .i key, .i line, .i l, .i pred, .i ref, .i cur, .i w, .i r, .l P, .l S, .l K] ∧ ((line = 1 ∨ line = 2 ∨ line = 3 ∨ line = 4) ∧ 0 ≤ l ∧ l < a2 ∨ line = 9 ∧ l = -1) ∧ isWd cur ∧ isWd w ∧ (line = 3 → 9223372036854775808 ≤ w) ∧ 1 ≤ a2 ∧ a2 ≤ 4 ∧ (P.length : Int) = a2 ∧ (S.length : Int) = a2 ∧ (K.length : Int) = a2
def rfindObj (ps : List (EV U)) : U := match ps with | [.i a0, .i a1, .i a2, .i a3, .i a4, .i a5, .i a6, .i a7, .i a8, .i a9, .i a10, .i a11, .i a12, .i key, .i line, .i l, .i pred, .i ref, .i cur, .i w, .i r, .l P, .l S, .l K] => .rfind (FindSt.norm ⟨[a0, a1, a2, a3, a4, a5, a6, a7, a8, a9, a10, a11, a12], key, line, l, pred, ref, cur, w, P, S, K, r⟩) | _ => .bad
end Go.Proofs.YtbmbiiiacajolaaGreat
