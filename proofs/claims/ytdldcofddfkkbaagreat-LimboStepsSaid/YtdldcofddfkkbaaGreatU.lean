/- The states of objects, as plain data: memories; what accesses do to them. No program is named here. -/
import Derived.Test.YtdldcofddfkkbaaGreatSr
namespace Go.Proofs.YtdldcofddfkkbaaGreat
set_option linter.unusedVariables false
set_option linter.unusedSimpArgs false
set_option linter.unusedSectionVars false
open Go

theorem cmp_eql_t (x y : Int) : (cmpDen .eql x y = true) = (x = y) := by simp [cmpDen]
theorem cmp_eql_f (x y : Int) : (cmpDen .eql x y = false) = (x ≠ y) := by simp [cmpDen]
theorem cmp_neq_t (x y : Int) : (cmpDen .neq x y = true) = (x ≠ y) := by simp [cmpDen]
theorem cmp_neq_f (x y : Int) : (cmpDen .neq x y = false) = (x = y) := by simp [cmpDen]
theorem cmp_lss_t (x y : Int) : (cmpDen .lss x y = true) = (x < y) := by simp [cmpDen]
theorem cmp_lss_f (x y : Int) : (cmpDen .lss x y = false) = (y ≤ x) := by simp [cmpDen]
theorem cmp_leq_t (x y : Int) : (cmpDen .leq x y = true) = (x ≤ y) := by simp [cmpDen]
theorem cmp_leq_f (x y : Int) : (cmpDen .leq x y = false) = (y < x) := by simp [cmpDen]
theorem cmp_gtr_t (x y : Int) : (cmpDen .gtr x y = true) = (y < x) := by simp [cmpDen]
theorem cmp_gtr_f (x y : Int) : (cmpDen .gtr x y = false) = (x ≤ y) := by simp [cmpDen]
theorem cmp_geq_t (x y : Int) : (cmpDen .geq x y = true) = (y ≤ x) := by simp [cmpDen]
theorem cmp_geq_f (x y : Int) : (cmpDen .geq x y = false) = (x < y) := by simp [cmpDen]

/-- a memory: its words, its last access, how many there were -/
structure MemSt where
  W : List Int
  k : Int
  a : Int
  o : Int
  n : Int
  h : Bool
  N : Int

namespace MemSt
def is (M : MemSt) (at_ : Int) : Bool := decide (0 ≤ at_ ∧ at_ < M.W.length)
def word (M : MemSt) (at_ : Int) : Int := M.W.getD at_.toNat 0
/-- an access: what is there then, is it written? -/
def acc (M : MemSt) (kind at_ w : Int) (held : Bool) : MemSt :=
  if M.is at_ then ⟨M.W.set at_.toNat w, kind, at_, M.word at_, w, held, IntKind.i64.wrap (M.N + 1)⟩
  else ⟨M.W, kind, at_, 0, 0, false, IntKind.i64.wrap (M.N + 1)⟩
def load (M : MemSt) (at_ : Int) : MemSt := M.acc 1 at_ (M.word at_) false
def store (M : MemSt) (at_ w : Int) : MemSt := M.acc 2 at_ w true
def cas (M : MemSt) (at_ x y : Int) : MemSt := if M.word at_ = x then M.acc 3 at_ y true else M.acc 3 at_ (M.word at_) false
def add (M : MemSt) (at_ x : Int) : MemSt := M.acc 4 at_ (IntKind.u64.wrap (M.word at_ + x)) true
def new (n : Int) : MemSt := ⟨List.replicate n.toNat 0, 0, 0, 0, 0, false, 0⟩
end MemSt

/-- a Retire: the limbo (10 numbers), the node; its line (0: the epoch, 1: the push, 9: it has ended), the waiting stack's top, the push's line and word, what it came to -/
structure RetSt where
  l : List Int
  i : Int
  line : Int
  st : Int
  pl : Int
  w : Int
  err : Int
/-- a Collect: the limbo; its line (0: the advance, 1: all, 2: a link, 3: a free, 9: it has ended); the advance (core, epoch, line, word, whose pin is next); all (its top, line, word); the node, the next one, how many; the free (line, generation, the push's line and word); what it came to -/
structure ColSt where
  l : List Int
  line : Int
  c : Int
  p : Int
  al : Int
  aw : Int
  an : Int
  at_ : Int
  ll : Int
  lw : Int
  i : Int
  nx : Int
  n : Int
  fl : Int
  fg : Int
  pl : Int
  pw : Int
  err : Int
/-- a word read as an index -/
def idxW (size w : Int) : Int := if w % 65536 - 1 ≥ size then -1 else w % 65536 - 1

/-- the objects of this proof -/
inductive U where
  | bad
  | mem (M : MemSt)
  | memNil
  | memZero
  | rmem (M : MemSt)
  | rmemNil
  | ret (R : RetSt)
  | retNil
  | rret (R : RetSt)
  | rretNil
  | col (C : ColSt)
  | colNil
  | rcol (C : ColSt)
  | rcolNil
instance : Nil U := ⟨fun s => match s with | .memNil | .rmemNil | .retNil | .rretNil | .colNil | .rcolNil => true | _ => false⟩
def vI : Option (EV U) → Int | some (.i n) => n | _ => 0
def vB : Option (EV U) → Bool | some (.b x) => x | _ => false
def vL : Option (EV U) → List Int | some (.l x) => x | _ => []
def vF : Option (EV U) → Nat → Nat → Int | some (.f g _) => g | _ => fun _ _ => 0
def vN : Option (EV U) → Nat | some (.f _ n) => n | _ => 0
def vU : Option (EV U) → Bool | some (.u s) => Nil.isNil s | _ => false
/-- rules of a walk, in one -/
theorem dn : (∀ (α β : Type) (f : α → β) (a : α) (l : List α), (a :: l).map f = f a :: l.map f) ∧ (∀ (α β : Type) (f : α → β), ([] : List α).map f = []) ∧ (∀ (α : Type) (a : α) (l m : List α), a :: l ++ m = a :: (l ++ m)) ∧ (∀ (α : Type) (l : List α), [] ++ l = l) ∧ (∀ (α : Type) (a : α) (l : List α), (a :: l)[0]? = some a) ∧ (∀ (α : Type) (a : α) (l : List α) (i : Nat), (a :: l)[i + 1]? = l[i]?) ∧ (∀ (α : Type) (a b : α), (some a).getD b = a) ∧ (∀ x y : Int, (cmpDen .eql x y = true) = (x = y)) ∧ (∀ x y : Int, (cmpDen .eql x y = false) = (x ≠ y)) ∧ (∀ x y : Int, (cmpDen .neq x y = true) = (x ≠ y)) ∧ (∀ x y : Int, (cmpDen .neq x y = false) = (x = y)) ∧ (∀ x y : Int, (cmpDen .lss x y = true) = (x < y)) ∧ (∀ x y : Int, (cmpDen .lss x y = false) = (y ≤ x)) ∧ (∀ x y : Int, (cmpDen .leq x y = true) = (x ≤ y)) ∧ (∀ x y : Int, (cmpDen .leq x y = false) = (y < x)) ∧ (∀ x y : Int, (cmpDen .gtr x y = true) = (y < x)) ∧ (∀ x y : Int, (cmpDen .gtr x y = false) = (x ≤ y)) ∧ (∀ x y : Int, (cmpDen .geq x y = true) = (y ≤ x)) ∧ (∀ x y : Int, (cmpDen .geq x y = false) = (x < y)) ∧ (∀ b : Bool, ((!b) = true) = (b = false)) ∧ (∀ b : Bool, ((!b) = false) = (b = true)) ∧ (∀ a b : Bool, ((a && b) = true) = (a = true ∧ b = true)) ∧ (∀ a b : Bool, ((a && b) = false) = (a = false ∨ b = false)) ∧ (∀ (α : Type) (a b : α), (some a = some b) = (a = b)) ∧ (∀ p : Prop, (p ∧ p) = p) ∧ (∀ p : Prop, (True ∧ p) = p) ∧ (∀ p : Prop, (p ∧ True) = p) ∧ (∀ p : Prop, (p ∨ False) = p) ∧ (∀ p : Prop, (False ∨ p) = p) ∧ (∀ p : Prop, (p ∨ p) = p) ∧ (∀ (V : Type) (a b : V), (EV.u a = EV.u b) = (a = b)) ∧ ((¬ True) = False) ∧ ((¬ False) = True) ∧ ((true = false) = False) ∧ ((false = true) = False) ∧ (∀ (α : Type) (a b : α), (a ≠ b) = ¬ a = b) ∧ (∀ a : Int, (a == a) = true) ∧ (∀ a : Bool, (a == a) = true) ∧ (∀ (e : List (EV U)) (n : Int), Ex.den e (.lit n) = n) ∧ (∀ (e : List (EV U)) (i : Nat), Ex.den e (.var i) = gI e i) ∧ (∀ (e : List (EV U)) (o : BinOp) (k : IntKind) (a b : Ex), Ex.den e (.bin o k a b) = binDen o k (a.den e) (b.den e)) ∧ (∀ (e : List (EV U)) (k : IntKind) (a : Ex), Ex.den e (.conv k a) = k.wrap (a.den e)) ∧ (∀ (e : List (EV U)) (i : Nat), Ex.den e (.len i) = ((gL e i).length : Int)) ∧ (∀ (e : List (EV U)) (i : Nat) (a : Ex), Ex.den e (.nth i a) = (gL e i).getD (a.den e).toNat 0) ∧ (∀ (e : List (EV U)) (i : Nat) (a : Ex) (c : Nat), Ex.den e (.fld i a c) = gF e i (a.den e).toNat c) ∧ (∀ (e : List (EV U)) (i : Nat), Ex.den e (.nrow i) = (gN e i : Int)) ∧ (∀ (e : List (EV U)) (b : Bool), Bx.den e (.lit b) = b) ∧ (∀ (e : List (EV U)) (i : Nat), Bx.den e (.var i) = gB e i) ∧ (∀ (e : List (EV U)) (o : BinOp) (a b : Ex), Bx.den e (.cmp o a b) = cmpDen o (a.den e) (b.den e)) ∧ (∀ (e : List (EV U)) (a b : Bx), Bx.den e (.beq a b) = (a.den e == b.den e)) ∧ (∀ (e : List (EV U)) (a : Bx), Bx.den e (.not a) = (!a.den e)) ∧ (∀ (e : List (EV U)) (a b : Bx), Bx.den e (.and a b) = (a.den e && b.den e)) ∧ (∀ (e : List (EV U)) (i : Nat), Bx.den e (.isnil i) = gNil e i) ∧ (∀ (e : List (EV U)) (i : Nat) (a : Ex) (c : Nat), Bx.den e (.fld i a c) = (gF e i (a.den e).toNat c != 0)) ∧ (∀ (e : List (EV U)) (i : Nat) (a : Ex), Bx.den e (.mem i a) = decide (a.den e ∈ gL e i)) ∧ (∀ (e : List (EV U)) (a : Ex), Bnd.den e (.ex a) = .i (a.den e)) ∧ (∀ (e : List (EV U)) (b : Bx), Bnd.den e (.bx b) = .b (b.den e)) ∧ (∀ (e : List (EV U)) (i : Nat), Bnd.den e (.var i) = e.getD i (.i 0)) ∧ (∀ (e : List (EV U)) (i : Nat), gI e i = vI e[i]?) ∧ (∀ (n : Int), vI (some (.i n)) = n) ∧ (∀ (e : List (EV U)) (i : Nat), gB e i = vB e[i]?) ∧ (∀ (x : Bool), vB (some (.b x)) = x) ∧ (∀ (e : List (EV U)) (i : Nat), gL e i = vL e[i]?) ∧ (∀ (x : List Int), vL (some (.l x)) = x) ∧ (∀ (e : List (EV U)) (i : Nat), gF e i = vF e[i]?) ∧ (∀ (g : Nat → Nat → Int) (n : Nat), vF (some (.f g n)) = g) ∧ (∀ (e : List (EV U)) (i : Nat), gN e i = vN e[i]?) ∧ (∀ (g : Nat → Nat → Int) (n : Nat), vN (some (.f g n)) = n) ∧ (∀ (e : List (EV U)) (i : Nat), gNil e i = vU e[i]?) ∧ (∀ (s : U), vU (some (.u s)) = Nil.isNil s) ∧ (∀ s : U, Nil.isNil s = match s with | .memNil | .rmemNil | .retNil | .rretNil | .colNil | .rcolNil => true | _ => false) ∧ (∀ (α : Type) (l : List α) (i : Nat) (d : α), l.getD i d = l[i]?.getD d) ∧ (∀ (α : Type) (n : Nat) (a : α) (l : List α), (a :: l).take (n + 1) = a :: l.take n) ∧ (∀ (α : Type) (l : List α), l.take 0 = []) ∧ (∀ (k : IntKind) (x y : Int), binDen .add k x y = k.wrap (x + y)) ∧ (∀ (k : IntKind) (x y : Int), binDen .sub k x y = k.wrap (x - y)) ∧ (∀ (k : IntKind) (x y : Int), binDen .mul k x y = k.wrap (x * y)) ∧ (∀ (k : IntKind) (x y : Int), binDen .quo k x y = k.wrap (x.tdiv y)) ∧ (∀ (k : IntKind) (x y : Int), binDen .rem k x y = x.tmod y) ∧ (∀ (k : IntKind) (x y : Int), binDen .and k x y = bits .and k x y) ∧ (∀ (k : IntKind) (x y : Int), binDen .or k x y = bits .or k x y) ∧ (∀ (k : IntKind) (x y : Int), binDen .xor k x y = bits .xor k x y) ∧ (∀ (k : IntKind) (x y : Int), binDen .andNot k x y = bits .andNot k x y) ∧ (∀ (k : IntKind) (x y : Int), binDen .shl k x y = k.wrap (x * 2 ^ min y.toNat k.bits)) ∧ (∀ (k : IntKind) (x y : Int), binDen .shr k x y = x.fdiv (2 ^ min y.toNat k.bits)) :=
  ⟨fun _ _ _ _ _ => rfl, fun _ _ _ => rfl, fun _ _ _ _ => rfl, fun _ _ => rfl, fun _ _ _ => rfl, fun _ _ _ _ => List.getElem?_cons_succ, fun _ _ _ => rfl, cmp_eql_t, cmp_eql_f, cmp_neq_t, cmp_neq_f, cmp_lss_t, cmp_lss_f, cmp_leq_t, cmp_leq_f, cmp_gtr_t, cmp_gtr_f, cmp_geq_t, cmp_geq_f, fun b => Bool.not_eq_true' b, fun b => Bool.not_eq_false' b, Bool.and_eq_true, fun a b => propext (Bool.and_eq_false_iff), fun _ _ _ => Option.some.injEq _ _, and_self, true_and, and_true, or_false, false_or, or_self, fun _ _ _ => EV.u.injEq _ _, not_true_eq_false, not_false_eq_true, Bool.true_eq_false, Bool.false_eq_true, fun _ _ _ => rfl, fun _ => beq_self_eq_true _, fun _ => beq_self_eq_true _, fun _ _ => rfl, fun _ _ => rfl, fun _ _ _ _ _ => rfl, fun _ _ _ => rfl, fun _ _ => rfl, fun _ _ _ => rfl, fun _ _ _ _ => rfl, fun _ _ => rfl, fun _ _ => rfl, fun _ _ => rfl, fun _ _ _ _ => rfl, fun _ _ _ => rfl, fun _ _ => rfl, fun _ _ _ => rfl, fun _ _ => rfl, fun _ _ _ _ => rfl, fun _ _ _ => rfl, fun _ _ => rfl, fun _ _ => rfl, fun _ _ => rfl, fun e i => by unfold gI; rcases e[i]? with _ | (_ | _ | _ | _ | _ | _) <;> rfl, fun _ => rfl, fun e i => by unfold gB; rcases e[i]? with _ | (_ | _ | _ | _ | _ | _) <;> rfl, fun _ => rfl, fun e i => by unfold gL; rcases e[i]? with _ | (_ | _ | _ | _ | _ | _) <;> rfl, fun _ => rfl, fun e i => by unfold gF; rcases e[i]? with _ | (_ | _ | _ | _ | _ | _) <;> rfl, fun _ _ => rfl, fun e i => by unfold gN; rcases e[i]? with _ | (_ | _ | _ | _ | _ | _) <;> rfl, fun _ _ => rfl, fun e i => by unfold gNil; rcases e[i]? with _ | (_ | _ | _ | _ | _ | _) <;> rfl, fun _ => rfl, fun _ => rfl, fun _ _ _ _ => rfl, fun _ _ _ _ => rfl, fun _ _ => rfl, fun _ _ _ => rfl, fun _ _ _ => rfl, fun _ _ _ => rfl, fun _ _ _ => rfl, fun _ _ _ => rfl, fun _ _ _ => rfl, fun _ _ _ => rfl, fun _ _ _ => rfl, fun _ _ _ => rfl, fun _ _ _ => rfl, fun _ _ _ => rfl⟩
/-- which kind of object is it? -/
def U.kind : U → Nat
  | .bad => 0
  | .mem _ => 1
  | .memNil => 2
  | .memZero => 3
  | .rmem _ => 4
  | .rmemNil => 5
  | .ret _ => 6
  | .retNil => 7
  | .rret _ => 8
  | .rretNil => 9
  | .col _ => 10
  | .colNil => 11
  | .rcol _ => 12
  | .rcolNil => 13

/-! ### forms -/
def memOk (ps : List (EV U)) : Prop := ∃ l s k a o n h N, ps = [.l l, .i s, .i k, .i a, .i o, .i n, .b h, .i N] ∧ l.length = 4096 ∧ 0 ≤ s ∧ s ≤ 4096
def memObj (ps : List (EV U)) : U :=
  match ps with
  | [.l l, .i s, .i k, .i a, .i o, .i n, .b h, .i N] => .mem ⟨l.take s.toNat, k, a, o, n, h, N⟩
  | _ => .bad
def rmemOk (ps : List (EV U)) : Prop := ∃ l s k a o n h N, ps = [.l l, .i s, .i k, .i a, .i o, .i n, .b h, .i N] ∧ (l.length : Int) = s
def rmemObj (ps : List (EV U)) : U :=
  match ps with
  | [.l l, .i _, .i k, .i a, .i o, .i n, .b h, .i N] => .rmem ⟨l, k, a, o, n, h, N⟩
  | _ => .bad
def isWd (x : Int) : Prop := 0 ≤ x ∧ x < 18446744073709551616
def retAOk (ps : List (EV U)) : Prop := ∃ t ls s g wo lm ea ep ec tp i, ps = [.i t, .i ls, .i s, .i g, .i wo, .i lm, .i ea, .i ep, .i ec, .i tp, .i i] ∧ 0 ≤ i ∧ i < s ∧ s ≤ 4096
def retAObj (ps : List (EV U)) : U := match ps with | [.i t, .i ls, .i s, .i g, .i wo, .i lm, .i ea, .i ep, .i ec, .i tp, .i i] => .ret ⟨[t, ls, s, g, wo, lm, ea, ep, ec, tp], i, 0, 0, 0, 0, 0⟩ | _ => .bad
def retB1Ok (ps : List (EV U)) : Prop := ∃ t ls s g wo lm ea ep ec tp i st w j, ps = [.i t, .i ls, .i s, .i g, .i wo, .i lm, .i ea, .i ep, .i ec, .i tp, .i i, .i st, .i w, .i j] ∧ 0 ≤ i ∧ i < s ∧ s ≤ 4096 ∧ isWd w
def retB1Obj (ps : List (EV U)) : U := match ps with | [.i t, .i ls, .i s, .i g, .i wo, .i lm, .i ea, .i ep, .i ec, .i tp, .i i, .i st, .i w, .i j] => .ret ⟨[t, ls, s, g, wo, lm, ea, ep, ec, tp], i, 1, st, 1, 0, 0⟩ | _ => .bad
def retB2Ok (ps : List (EV U)) : Prop := ∃ t ls s g wo lm ea ep ec tp i st w j, ps = [.i t, .i ls, .i s, .i g, .i wo, .i lm, .i ea, .i ep, .i ec, .i tp, .i i, .i st, .i w, .i j] ∧ 0 ≤ i ∧ i < s ∧ s ≤ 4096 ∧ isWd w ∧ j = idxW s w
def retB2Obj (ps : List (EV U)) : U := match ps with | [.i t, .i ls, .i s, .i g, .i wo, .i lm, .i ea, .i ep, .i ec, .i tp, .i i, .i st, .i w, .i j] => .ret ⟨[t, ls, s, g, wo, lm, ea, ep, ec, tp], i, 1, st, 2, w, 0⟩ | _ => .bad
def retB3Ok (ps : List (EV U)) : Prop := ∃ t ls s g wo lm ea ep ec tp i st w j, ps = [.i t, .i ls, .i s, .i g, .i wo, .i lm, .i ea, .i ep, .i ec, .i tp, .i i, .i st, .i w, .i j] ∧ 0 ≤ i ∧ i < s ∧ s ≤ 4096 ∧ isWd w
def retB3Obj (ps : List (EV U)) : U := match ps with | [.i t, .i ls, .i s, .i g, .i wo, .i lm, .i ea, .i ep, .i ec, .i tp, .i i, .i st, .i w, .i j] => .ret ⟨[t, ls, s, g, wo, lm, ea, ep, ec, tp], i, 1, st, 3, w, 0⟩ | _ => .bad
def retCOk (ps : List (EV U)) : Prop := ∃ t ls s g wo lm ea ep ec tp i st w j, ps = [.i t, .i ls, .i s, .i g, .i wo, .i lm, .i ea, .i ep, .i ec, .i tp, .i i, .i st, .i w, .i j] ∧ True
def retCObj (ps : List (EV U)) : U := match ps with | [.i t, .i ls, .i s, .i g, .i wo, .i lm, .i ea, .i ep, .i ec, .i tp, .i i, .i st, .i w, .i j] => .ret ⟨[t, ls, s, g, wo, lm, ea, ep, ec, tp], i, 9, 0, 0, 0, 0⟩ | _ => .bad
def retROk (ps : List (EV U)) : Prop := ∃ t ls s g wo lm ea ep ec tp i e, ps = [.i t, .i ls, .i s, .i g, .i wo, .i lm, .i ea, .i ep, .i ec, .i tp, .i i, .i e] ∧ e ≠ 0
def retRObj (ps : List (EV U)) : U := match ps with | [.i t, .i ls, .i s, .i g, .i wo, .i lm, .i ea, .i ep, .i ec, .i tp, .i i, .i e] => .ret ⟨[t, ls, s, g, wo, lm, ea, ep, ec, tp], i, 9, 0, 0, 0, e⟩ | _ => .bad
def rretAOk (ps : List (EV U)) : Prop := ∃ t ls s g wo lm ea ep ec tp i, ps = [.i t, .i ls, .i s, .i g, .i wo, .i lm, .i ea, .i ep, .i ec, .i tp, .i i] ∧ 0 ≤ i ∧ i < s ∧ s ≤ 4096
def rretAObj (ps : List (EV U)) : U := match ps with | [.i t, .i ls, .i s, .i g, .i wo, .i lm, .i ea, .i ep, .i ec, .i tp, .i i] => .rret ⟨[t, ls, s, g, wo, lm, ea, ep, ec, tp], i, 0, 0, 0, 0, 0⟩ | _ => .bad
def rretBOk (ps : List (EV U)) : Prop := ∃ t ls s g wo lm ea ep ec tp i st pl w line, ps = [.i t, .i ls, .i s, .i g, .i wo, .i lm, .i ea, .i ep, .i ec, .i tp, .i i, .i st, .i pl, .i w, .i line] ∧ 0 ≤ i ∧ i < s ∧ s ≤ 4096 ∧ isWd w ∧ (line = 1 ∧ (pl = 1 ∨ pl = 2 ∨ pl = 3) ∨ line = 9 ∧ pl = 9)
def rretBObj (ps : List (EV U)) : U := match ps with | [.i t, .i ls, .i s, .i g, .i wo, .i lm, .i ea, .i ep, .i ec, .i tp, .i i, .i st, .i pl, .i w, .i line] => .rret ⟨[t, ls, s, g, wo, lm, ea, ep, ec, tp], i, line, (if line = 9 then 0 else st), (if line = 9 then 0 else pl), (if line = 1 ∧ pl ≠ 1 then w else 0), 0⟩ | _ => .bad
def rretROk (ps : List (EV U)) : Prop := ∃ t ls s g wo lm ea ep ec tp i e, ps = [.i t, .i ls, .i s, .i g, .i wo, .i lm, .i ea, .i ep, .i ec, .i tp, .i i, .i e] ∧ e ≠ 0
def rretRObj (ps : List (EV U)) : U := match ps with | [.i t, .i ls, .i s, .i g, .i wo, .i lm, .i ea, .i ep, .i ec, .i tp, .i i, .i e] => .rret ⟨[t, ls, s, g, wo, lm, ea, ep, ec, tp], i, 9, 0, 0, 0, e⟩ | _ => .bad
def colAOk (ps : List (EV U)) : Prop := ∃ t ls s g wo lm ea ep ec tp c p al aw an av, ps = [.i t, .i ls, .i s, .i g, .i wo, .i lm, .i ea, .i ep, .i ec, .i tp, .i c, .i p, .i al, .i aw, .i an, .i av] ∧ 1 ≤ s ∧ s ≤ 4096 ∧ isWd aw ∧ 0 ≤ c ∧ c < ec ∧ ec ≤ 64 ∧ 0 ≤ p ∧ (al = 0 ∧ an = 0 ∨ (al = 1 ∨ al = 2) ∧ aw % 4294967296 = p) ∧ (al = 1 → 0 ≤ an ∧ an < ec)
def colAObj (ps : List (EV U)) : U := match ps with | [.i t, .i ls, .i s, .i g, .i wo, .i lm, .i ea, .i ep, .i ec, .i tp, .i c, .i p, .i al, .i aw, .i an, .i av] => .col ⟨[t, ls, s, g, wo, lm, ea, ep, ec, tp], 0, c, p, al, (if al = 0 then 0 else aw), (if al = 1 then an else 0), av, 0, 0, 0, 0, 0, 0, 0, 0, 0, 0⟩ | _ => .bad
def colT1Ok (ps : List (EV U)) : Prop := ∃ t ls s g wo lm ea ep ec tp c p aw an av lw i j, ps = [.i t, .i ls, .i s, .i g, .i wo, .i lm, .i ea, .i ep, .i ec, .i tp, .i c, .i p, .i aw, .i an, .i av, .i lw, .i i, .i j] ∧ 1 ≤ s ∧ s ≤ 4096 ∧ isWd lw
def colT1Obj (ps : List (EV U)) : U := match ps with | [.i t, .i ls, .i s, .i g, .i wo, .i lm, .i ea, .i ep, .i ec, .i tp, .i c, .i p, .i aw, .i an, .i av, .i lw, .i i, .i j] => .col ⟨[t, ls, s, g, wo, lm, ea, ep, ec, tp], 1, 0, 0, 0, 0, 0, av, 1, 0, 0, 0, 0, 0, 0, 0, 0, 0⟩ | _ => .bad
def colT2Ok (ps : List (EV U)) : Prop := ∃ t ls s g wo lm ea ep ec tp c p aw an av lw i j, ps = [.i t, .i ls, .i s, .i g, .i wo, .i lm, .i ea, .i ep, .i ec, .i tp, .i c, .i p, .i aw, .i an, .i av, .i lw, .i i, .i j] ∧ 1 ≤ s ∧ s ≤ 4096 ∧ isWd lw ∧ i = idxW s lw ∧ 0 ≤ i
def colT2Obj (ps : List (EV U)) : U := match ps with | [.i t, .i ls, .i s, .i g, .i wo, .i lm, .i ea, .i ep, .i ec, .i tp, .i c, .i p, .i aw, .i an, .i av, .i lw, .i i, .i j] => .col ⟨[t, ls, s, g, wo, lm, ea, ep, ec, tp], 1, 0, 0, 0, 0, 0, av, 2, lw, 0, 0, 0, 0, 0, 0, 0, 0⟩ | _ => .bad
def colL0Ok (ps : List (EV U)) : Prop := ∃ t ls s g wo lm ea ep ec tp c p aw an av lw ai aj i nx n, ps = [.i t, .i ls, .i s, .i g, .i wo, .i lm, .i ea, .i ep, .i ec, .i tp, .i c, .i p, .i aw, .i an, .i av, .i lw, .i ai, .i aj, .i i, .i nx, .i n] ∧ 1 ≤ s ∧ s ≤ 4096 ∧ 0 ≤ i ∧ i < s ∧ 0 ≤ n ∧ n < s
def colL0Obj (ps : List (EV U)) : U := match ps with | [.i t, .i ls, .i s, .i g, .i wo, .i lm, .i ea, .i ep, .i ec, .i tp, .i c, .i p, .i aw, .i an, .i av, .i lw, .i ai, .i aj, .i i, .i nx, .i n] => .col ⟨[t, ls, s, g, wo, lm, ea, ep, ec, tp], 2, 0, 0, 0, 0, 0, 0, 0, 0, i, 0, n, 0, 0, 0, 0, 0⟩ | _ => .bad
def colL1Ok (ps : List (EV U)) : Prop := ∃ t ls s g wo lm ea ep ec tp c p aw an av lw ai aj i nx n fi fg pw pj pd, ps = [.i t, .i ls, .i s, .i g, .i wo, .i lm, .i ea, .i ep, .i ec, .i tp, .i c, .i p, .i aw, .i an, .i av, .i lw, .i ai, .i aj, .i i, .i nx, .i n, .i fi, .i fg, .i pw, .i pj, .b pd] ∧ 1 ≤ s ∧ s ≤ 4096 ∧ 0 ≤ i ∧ i < s ∧ 0 ≤ n ∧ n < s
def colL1Obj (ps : List (EV U)) : U := match ps with | [.i t, .i ls, .i s, .i g, .i wo, .i lm, .i ea, .i ep, .i ec, .i tp, .i c, .i p, .i aw, .i an, .i av, .i lw, .i ai, .i aj, .i i, .i nx, .i n, .i fi, .i fg, .i pw, .i pj, .b pd] => .col ⟨[t, ls, s, g, wo, lm, ea, ep, ec, tp], 2, 0, 0, 0, 0, 0, 0, 0, 0, i, 0, n, 0, 0, 0, 0, 0⟩ | _ => .bad
def colG0Ok (ps : List (EV U)) : Prop := ∃ t ls s g wo lm ea ep ec tp c p aw an av lw ai aj i nx n fg pw pj, ps = [.i t, .i ls, .i s, .i g, .i wo, .i lm, .i ea, .i ep, .i ec, .i tp, .i c, .i p, .i aw, .i an, .i av, .i lw, .i ai, .i aj, .i i, .i nx, .i n, .i fg, .i pw, .i pj] ∧ 1 ≤ s ∧ s ≤ 4096 ∧ 0 ≤ i ∧ i < s ∧ 0 ≤ n ∧ n < s ∧ isWd fg ∧ isWd pw
def colG0Obj (ps : List (EV U)) : U := match ps with | [.i t, .i ls, .i s, .i g, .i wo, .i lm, .i ea, .i ep, .i ec, .i tp, .i c, .i p, .i aw, .i an, .i av, .i lw, .i ai, .i aj, .i i, .i nx, .i n, .i fg, .i pw, .i pj] => .col ⟨[t, ls, s, g, wo, lm, ea, ep, ec, tp], 3, 0, 0, 0, 0, 0, 0, 0, 0, i, nx, n, 0, 0, 0, 0, 0⟩ | _ => .bad
def colG1Ok (ps : List (EV U)) : Prop := ∃ t ls s g wo lm ea ep ec tp c p aw an av lw ai aj i nx n fg pw pj, ps = [.i t, .i ls, .i s, .i g, .i wo, .i lm, .i ea, .i ep, .i ec, .i tp, .i c, .i p, .i aw, .i an, .i av, .i lw, .i ai, .i aj, .i i, .i nx, .i n, .i fg, .i pw, .i pj] ∧ 1 ≤ s ∧ s ≤ 4096 ∧ 0 ≤ i ∧ i < s ∧ 0 ≤ n ∧ n < s ∧ isWd fg ∧ isWd pw
def colG1Obj (ps : List (EV U)) : U := match ps with | [.i t, .i ls, .i s, .i g, .i wo, .i lm, .i ea, .i ep, .i ec, .i tp, .i c, .i p, .i aw, .i an, .i av, .i lw, .i ai, .i aj, .i i, .i nx, .i n, .i fg, .i pw, .i pj] => .col ⟨[t, ls, s, g, wo, lm, ea, ep, ec, tp], 3, 0, 0, 0, 0, 0, 0, 0, 0, i, nx, n, 1, fg, 0, 0, 0⟩ | _ => .bad
def colG2Ok (ps : List (EV U)) : Prop := ∃ t ls s g wo lm ea ep ec tp c p aw an av lw ai aj i nx n fg pw pj, ps = [.i t, .i ls, .i s, .i g, .i wo, .i lm, .i ea, .i ep, .i ec, .i tp, .i c, .i p, .i aw, .i an, .i av, .i lw, .i ai, .i aj, .i i, .i nx, .i n, .i fg, .i pw, .i pj] ∧ 1 ≤ s ∧ s ≤ 4096 ∧ 0 ≤ i ∧ i < s ∧ 0 ≤ n ∧ n < s ∧ isWd fg ∧ isWd pw
def colG2Obj (ps : List (EV U)) : U := match ps with | [.i t, .i ls, .i s, .i g, .i wo, .i lm, .i ea, .i ep, .i ec, .i tp, .i c, .i p, .i aw, .i an, .i av, .i lw, .i ai, .i aj, .i i, .i nx, .i n, .i fg, .i pw, .i pj] => .col ⟨[t, ls, s, g, wo, lm, ea, ep, ec, tp], 3, 0, 0, 0, 0, 0, 0, 0, 0, i, nx, n, 3, 0, 0, 0, 0⟩ | _ => .bad
def colG3fOk (ps : List (EV U)) : Prop := ∃ t ls s g wo lm ea ep ec tp c p aw an av lw ai aj i nx n fg pw pj, ps = [.i t, .i ls, .i s, .i g, .i wo, .i lm, .i ea, .i ep, .i ec, .i tp, .i c, .i p, .i aw, .i an, .i av, .i lw, .i ai, .i aj, .i i, .i nx, .i n, .i fg, .i pw, .i pj] ∧ 1 ≤ s ∧ s ≤ 4096 ∧ 0 ≤ i ∧ i < s ∧ 0 ≤ n ∧ n < s ∧ isWd fg ∧ isWd pw
def colG3fObj (ps : List (EV U)) : U := match ps with | [.i t, .i ls, .i s, .i g, .i wo, .i lm, .i ea, .i ep, .i ec, .i tp, .i c, .i p, .i aw, .i an, .i av, .i lw, .i ai, .i aj, .i i, .i nx, .i n, .i fg, .i pw, .i pj] => .col ⟨[t, ls, s, g, wo, lm, ea, ep, ec, tp], 3, 0, 0, 0, 0, 0, 0, 0, 0, i, nx, n, 2, 0, 1, 0, 0⟩ | _ => .bad
def colG3sOk (ps : List (EV U)) : Prop := ∃ t ls s g wo lm ea ep ec tp c p aw an av lw ai aj i nx n fg pw pj, ps = [.i t, .i ls, .i s, .i g, .i wo, .i lm, .i ea, .i ep, .i ec, .i tp, .i c, .i p, .i aw, .i an, .i av, .i lw, .i ai, .i aj, .i i, .i nx, .i n, .i fg, .i pw, .i pj] ∧ 1 ≤ s ∧ s ≤ 4096 ∧ 0 ≤ i ∧ i < s ∧ 0 ≤ n ∧ n < s ∧ isWd fg ∧ isWd pw ∧ pj = idxW s pw
def colG3sObj (ps : List (EV U)) : U := match ps with | [.i t, .i ls, .i s, .i g, .i wo, .i lm, .i ea, .i ep, .i ec, .i tp, .i c, .i p, .i aw, .i an, .i av, .i lw, .i ai, .i aj, .i i, .i nx, .i n, .i fg, .i pw, .i pj] => .col ⟨[t, ls, s, g, wo, lm, ea, ep, ec, tp], 3, 0, 0, 0, 0, 0, 0, 0, 0, i, nx, n, 2, 0, 2, pw, 0⟩ | _ => .bad
def colG3tOk (ps : List (EV U)) : Prop := ∃ t ls s g wo lm ea ep ec tp c p aw an av lw ai aj i nx n fg pw pj, ps = [.i t, .i ls, .i s, .i g, .i wo, .i lm, .i ea, .i ep, .i ec, .i tp, .i c, .i p, .i aw, .i an, .i av, .i lw, .i ai, .i aj, .i i, .i nx, .i n, .i fg, .i pw, .i pj] ∧ 1 ≤ s ∧ s ≤ 4096 ∧ 0 ≤ i ∧ i < s ∧ 0 ≤ n ∧ n < s ∧ isWd fg ∧ isWd pw
def colG3tObj (ps : List (EV U)) : U := match ps with | [.i t, .i ls, .i s, .i g, .i wo, .i lm, .i ea, .i ep, .i ec, .i tp, .i c, .i p, .i aw, .i an, .i av, .i lw, .i ai, .i aj, .i i, .i nx, .i n, .i fg, .i pw, .i pj] => .col ⟨[t, ls, s, g, wo, lm, ea, ep, ec, tp], 3, 0, 0, 0, 0, 0, 0, 0, 0, i, nx, n, 2, 0, 3, pw, 0⟩ | _ => .bad
def colE1Ok (ps : List (EV U)) : Prop := ∃ t ls s g wo lm ea ep ec tp c p aw an av e, ps = [.i t, .i ls, .i s, .i g, .i wo, .i lm, .i ea, .i ep, .i ec, .i tp, .i c, .i p, .i aw, .i an, .i av, .i e] ∧ e ≠ 0
def colE1Obj (ps : List (EV U)) : U := match ps with | [.i t, .i ls, .i s, .i g, .i wo, .i lm, .i ea, .i ep, .i ec, .i tp, .i c, .i p, .i aw, .i an, .i av, .i e] => .col ⟨[t, ls, s, g, wo, lm, ea, ep, ec, tp], 9, 0, 0, 0, 0, 0, 0, 0, 0, 0, 0, 0, 0, 0, 0, 0, e⟩ | _ => .bad
def colE2Ok (ps : List (EV U)) : Prop := ∃ t ls s g wo lm ea ep ec tp c p aw an av lw ai aj, ps = [.i t, .i ls, .i s, .i g, .i wo, .i lm, .i ea, .i ep, .i ec, .i tp, .i c, .i p, .i aw, .i an, .i av, .i lw, .i ai, .i aj] ∧ True
def colE2Obj (ps : List (EV U)) : U := match ps with | [.i t, .i ls, .i s, .i g, .i wo, .i lm, .i ea, .i ep, .i ec, .i tp, .i c, .i p, .i aw, .i an, .i av, .i lw, .i ai, .i aj] => .col ⟨[t, ls, s, g, wo, lm, ea, ep, ec, tp], 9, 0, 0, 0, 0, 0, 0, 0, 0, 0, 0, 0, 0, 0, 0, 0, 0⟩ | _ => .bad
def colE3Ok (ps : List (EV U)) : Prop := ∃ t ls s g wo lm ea ep ec tp c p aw an av lw ai aj i nx n fi fg pw pj pd, ps = [.i t, .i ls, .i s, .i g, .i wo, .i lm, .i ea, .i ep, .i ec, .i tp, .i c, .i p, .i aw, .i an, .i av, .i lw, .i ai, .i aj, .i i, .i nx, .i n, .i fi, .i fg, .i pw, .i pj, .b pd] ∧ True
def colE3Obj (ps : List (EV U)) : U := match ps with | [.i t, .i ls, .i s, .i g, .i wo, .i lm, .i ea, .i ep, .i ec, .i tp, .i c, .i p, .i aw, .i an, .i av, .i lw, .i ai, .i aj, .i i, .i nx, .i n, .i fi, .i fg, .i pw, .i pj, .b pd] => .col ⟨[t, ls, s, g, wo, lm, ea, ep, ec, tp], 9, 0, 0, 0, 0, 0, 0, 0, 0, 0, 0, n, 0, 0, 0, 0, 0⟩ | _ => .bad
def colROk (ps : List (EV U)) : Prop := ∃ t ls s g wo lm ea ep ec tp e, ps = [.i t, .i ls, .i s, .i g, .i wo, .i lm, .i ea, .i ep, .i ec, .i tp, .i e] ∧ e ≠ 0
def colRObj (ps : List (EV U)) : U := match ps with | [.i t, .i ls, .i s, .i g, .i wo, .i lm, .i ea, .i ep, .i ec, .i tp, .i e] => .col ⟨[t, ls, s, g, wo, lm, ea, ep, ec, tp], 9, 0, 0, 0, 0, 0, 0, 0, 0, 0, 0, 0, 0, 0, 0, 0, e⟩ | _ => .bad
def rcolAOk (ps : List (EV U)) : Prop := ∃ t ls s g wo lm ea ep ec tp c p al aw an bad av ll lw ai line i e, ps = [.i t, .i ls, .i s, .i g, .i wo, .i lm, .i ea, .i ep, .i ec, .i tp, .i c, .i p, .i al, .i aw, .i an, .i bad, .i av, .i ll, .i lw, .i ai, .i line, .i i, .i e] ∧ 1 ≤ s ∧ s ≤ 4096 ∧ 0 ≤ lm ∧ lm ≤ 4294967295 ∧ isWd aw ∧ isWd lw ∧ (line = 0 ∧ e = 0 ∧ i = 0 ∧ 0 ≤ c ∧ c < ec ∧ ec ≤ 64 ∧ 0 ≤ p ∧ (al = 1 ∧ an = 0 ∨ (al = 2 ∨ al = 3) ∧ aw % 4294967296 = p) ∧ (al = 2 → 0 ≤ an ∧ an < ec) ∧ ll = 1 ∨ line = 1 ∧ e = 0 ∧ al = 9 ∧ (ll = 1 ∨ ll = 2 ∧ ai = idxW s lw ∧ 0 ≤ ai) ∨ line = 2 ∧ e = 0 ∧ 0 ≤ i ∧ i < s ∨ line = 9)
def rcolAObj (ps : List (EV U)) : U := match ps with | [.i t, .i ls, .i s, .i g, .i wo, .i lm, .i ea, .i ep, .i ec, .i tp, .i c, .i p, .i al, .i aw, .i an, .i bad, .i av, .i ll, .i lw, .i ai, .i line, .i i, .i e] => .rcol ⟨[t, ls, s, g, wo, lm, ea, ep, ec, tp], line, (if line = 0 then c else 0), (if line = 0 then p else 0), (if line = 0 then al - 1 else 0), (if line = 0 ∧ al ≠ 1 then aw else 0), (if line = 0 ∧ al = 2 then an else 0), (if line = 0 ∨ line = 1 then av else 0), (if line = 1 then ll else 0), (if line = 1 ∧ ll = 2 then lw else 0), (if line = 2 then i else 0), 0, 0, 0, 0, 0, 0, (if line = 9 then e else 0)⟩ | _ => .bad
def rcolBOk (ps : List (EV U)) : Prop := ∃ t ls s g wo lm ea ep ec tp c p al aw an bad av ll lw ai line i nx n e fl fi fg pl pw, ps = [.i t, .i ls, .i s, .i g, .i wo, .i lm, .i ea, .i ep, .i ec, .i tp, .i c, .i p, .i al, .i aw, .i an, .i bad, .i av, .i ll, .i lw, .i ai, .i line, .i i, .i nx, .i n, .i e, .i fl, .i fi, .i fg, .i pl, .i pw] ∧ 1 ≤ s ∧ s ≤ 4096 ∧ 0 ≤ lm ∧ lm ≤ 4294967295 ∧ e = 0 ∧ isWd fg ∧ isWd pw ∧ 0 ≤ n ∧ (line = 2 ∧ 0 ≤ i ∧ i < s ∧ n < s ∨ line = 3 ∧ 0 ≤ i ∧ i < s ∧ n < s ∧ fi = i ∧ (fl = 0 ∧ pl = 1 ∨ fl = 1 ∧ pl = 1 ∨ fl = 2 ∧ (pl = 1 ∨ pl = 2 ∨ pl = 3) ∨ fl = 3 ∧ pl = 1) ∨ line = 9)
def rcolBObj (ps : List (EV U)) : U := match ps with | [.i t, .i ls, .i s, .i g, .i wo, .i lm, .i ea, .i ep, .i ec, .i tp, .i c, .i p, .i al, .i aw, .i an, .i bad, .i av, .i ll, .i lw, .i ai, .i line, .i i, .i nx, .i n, .i e, .i fl, .i fi, .i fg, .i pl, .i pw] => .rcol ⟨[t, ls, s, g, wo, lm, ea, ep, ec, tp], line, 0, 0, 0, 0, 0, 0, 0, 0, (if line = 9 then 0 else i), (if line = 3 then nx else 0), n, (if line = 3 then fl else 0), (if line = 3 ∧ fl = 1 then fg else 0), (if line = 3 ∧ fl = 2 then pl else 0), (if line = 3 ∧ fl = 2 ∧ pl ≠ 1 then pw else 0), 0⟩ | _ => .bad
def rcolROk (ps : List (EV U)) : Prop := ∃ t ls s g wo lm ea ep ec tp x0 x1 x2 c p al aw an bad av ll lw ai e, ps = [.i t, .i ls, .i s, .i g, .i wo, .i lm, .i ea, .i ep, .i ec, .i tp, .i x0, .i x1, .i x2, .i c, .i p, .i al, .i aw, .i an, .i bad, .i av, .i ll, .i lw, .i ai, .i e] ∧ e ≠ 0
def rcolRObj (ps : List (EV U)) : U := match ps with | [.i t, .i ls, .i s, .i g, .i wo, .i lm, .i ea, .i ep, .i ec, .i tp, .i x0, .i x1, .i x2, .i c, .i p, .i al, .i aw, .i an, .i bad, .i av, .i ll, .i lw, .i ai, .i e] => .rcol ⟨[t, ls, s, g, wo, lm, ea, ep, ec, tp], 9, 0, 0, 0, 0, 0, 0, 0, 0, 0, 0, 0, 0, 0, 0, 0, e⟩ | _ => .bad
end Go.Proofs.YtdldcofddfkkbaaGreat
