/- Texts of this proof. -/
import Derived.Test.YtbmbiiiacajolaaSrK
import Derived.Test.YtbmbiiiacajolaaProg
import Derived.KernelRfl
namespace Go.Proofs.Ytbmbiiiacajolaa
set_option linter.unusedVariables false
set_option linter.unusedSimpArgs false
set_option linter.unusedSectionVars false
open Go
theorem cmp_eql_t (x y : Int) : (cmpDen .eql x y = true) = (x = y) := by simp [cmpDen]
theorem cmp_eql_f (x y : Int) : (cmpDen .eql x y = false) = (x ≠ y) := by simp [cmpDen]
theorem cmp_neq_t (x y : Int) : (cmpDen .neq x y = true) = (x ≠ y) := by simp [cmpDen]
theorem cmp_neq_f (x y : Int) : (cmpDen .neq x y = false) = (x = y) := by simp [cmpDen]
theorem cmp_lss_t (x y : Int) : (cmpDen .lss x y = true) = (x < y) := by simp [cmpDen]
theorem cmp_lss_f (x y : Int) : (cmpDen .lss x y = false) = (y ≤ x) := by simp [cmpDen]
theorem cmp_leq_t (x y : Int) : (cmpDen .leq x y = true) = (x ≤ y) := by simp [cmpDen]
theorem cmp_leq_f (x y : Int) : (cmpDen .leq x y = false) = (y < x) := by simp [cmpDen]
theorem cmp_gtr_t (x y : Int) : (cmpDen .gtr x y = true) = (y < x) := by simp [cmpDen]
theorem cmp_gtr_f (x y : Int) : (cmpDen .gtr x y = false) = (x ≤ y) := by simp [cmpDen]
theorem cmp_geq_t (x y : Int) : (cmpDen .geq x y = true) = (y ≤ x) := by simp [cmpDen]
theorem cmp_geq_f (x y : Int) : (cmpDen .geq x y = false) = (x < y) := by simp [cmpDen]
structure MemSt where
 W : List Int
 k : Int
 a : Int
 o : Int
 n : Int
 h : Bool
 N : Int
namespace MemSt
def is (M : MemSt) (at_ : Int) : Bool := decide (0 ≤ at_ ∧ at_ < M.W.length)
def word (M : MemSt) (at_ : Int) : Int := M.W.getD at_.toNat 0
def acc (M : MemSt) (kind at_ w : Int) (held : Bool) : MemSt :=
 if M.is at_ then ⟨M.W.set at_.toNat w, kind, at_, M.word at_, w, held, IntKind.i64.wrap (M.N + 1)⟩
 else ⟨M.W, kind, at_, 0, 0, false, IntKind.i64.wrap (M.N + 1)⟩
def load (M : MemSt) (at_ : Int) : MemSt := M.acc 1 at_ (M.word at_) false
def store (M : MemSt) (at_ w : Int) : MemSt := M.acc 2 at_ w true
def cas (M : MemSt) (at_ x y : Int) : MemSt := if M.word at_ = x then M.acc 3 at_ y true else M.acc 3 at_ (M.word at_) false
def add (M : MemSt) (at_ x : Int) : MemSt := M.acc 4 at_ (IntKind.u64.wrap (M.word at_ + x)) true
def new (n : Int) : MemSt := ⟨List.replicate n.toNat 0, 0, 0, 0, 0, false, 0⟩
end MemSt
structure FindSt where
 t : List Int
 key : Int
 line : Int
 l : Int
 pred : Int
 ref : Int
 cur : Int
 w : Int
 P : List Int
 S : List Int
 K : List Int
 r : Int
def FindSt.norm (F : FindSt) : FindSt :=
 ⟨F.t, F.key, F.line, if F.line = 9 then 0 else F.l, if F.line = 9 then 0 else F.pred, if F.line = 9 then 0 else F.ref, if F.line = 9 ∨ F.line = 1 then 0 else F.cur, if F.line = 3 ∨ F.line = 4 then F.w else 0, F.P, F.S, F.K, F.r⟩
inductive U where
 | bad
 | mem (M : MemSt)
 | memNil
 | memZero
 | rmem (M : MemSt)
 | rmemNil
 | find (F : FindSt)
 | findNil
 | rfind (F : FindSt)
 | rfindNil
instance : Nil U := ⟨fun s => match s with | .memNil | .rmemNil | .findNil | .rfindNil => true | _ => false⟩
def vI : Option (EV U) → Int | some (.i n) => n | _ => 0
def vB : Option (EV U) → Bool | some (.b x) => x | _ => false
def vL : Option (EV U) → List Int | some (.l x) => x | _ => []
def vF : Option (EV U) → Nat → Nat → Int | some (.f g _) => g | _ => fun _ _ => 0
def vN : Option (EV U) → Nat | some (.f _ n) => n | _ => 0
def vU : Option (EV U) → Bool | some (.u s) => Nil.isNil s | _ => false
theorem dn : (∀ (α β : Type) (f : α → β) (a : α) (l : List α), (a :: l).map f = f a :: l.map f) ∧ (∀ (α β : Type) (f : α → β), ([] : List α).map f = []) ∧ (∀ (α : Type) (a : α) (l m : List α), a :: l ++ m = a :: (l ++ m)) ∧ (∀ (α : Type) (l : List α), [] ++ l = l) ∧ (∀ (α : Type) (a : α) (l : List α), (a :: l)[0]? = some a) ∧ (∀ (α : Type) (a : α) (l : List α) (i : Nat), (a :: l)[i + 1]? = l[i]?) ∧ (∀ (α : Type) (a b : α), (some a).getD b = a) ∧ (∀ x y : Int, (cmpDen .eql x y = true) = (x = y)) ∧ (∀ x y : Int, (cmpDen .eql x y = false) = (x ≠ y)) ∧ (∀ x y : Int, (cmpDen .neq x y = true) = (x ≠ y)) ∧ (∀ x y : Int, (cmpDen .neq x y = false) = (x = y)) ∧ (∀ x y : Int, (cmpDen .lss x y = true) = (x < y)) ∧ (∀ x y : Int, (cmpDen .lss x y = false) = (y ≤ x)) ∧ (∀ x y : Int, (cmpDen .leq x y = true) = (x ≤ y)) ∧ (∀ x y : Int, (cmpDen .leq x y = false) = (y < x)) ∧ (∀ x y : Int, (cmpDen .gtr x y = true) = (y < x)) ∧ (∀ x y : Int, (cmpDen .gtr x y = false) = (x ≤ y)) ∧ (∀ x y : Int, (cmpDen .geq x y = true) = (y ≤ x)) ∧ (∀ x y : Int, (cmpDen .geq x y = false) = (x < y)) ∧ (∀ b : Bool, ((!b) = true) = (b = false)) ∧ (∀ b : Bool, ((!b) = false) = (b = true)) ∧ (∀ a b : Bool, ((a && b) = true) = (a = true ∧ b = true)) ∧ (∀ a b : Bool, ((a && b) = false) = (a = false ∨ b = false)) ∧ (∀ (α : Type) (a b : α), (some a = some b) = (a = b)) ∧ (∀ p : Prop, (p ∧ p) = p) ∧ (∀ p : Prop, (True ∧ p) = p) ∧ (∀ p : Prop, (p ∧ True) = p) ∧ (∀ p : Prop, (p ∨ False) = p) ∧ (∀ p : Prop, (False ∨ p) = p) ∧ (∀ p : Prop, (p ∨ p) = p) ∧ (∀ (V : Type) (a b : V), (EV.u a = EV.u b) = (a = b)) ∧ ((¬ True) = False) ∧ ((¬ False) = True) ∧ ((true = false) = False) ∧ ((false = true) = False) ∧ (∀ (α : Type) (a b : α), (a ≠ b) = ¬ a = b) ∧ (∀ a : Int, (a == a) = true) ∧ (∀ a : Bool, (a == a) = true) ∧ (∀ (e : List (EV U)) (n : Int), Ex.den e (.lit n) = n) ∧ (∀ (e : List (EV U)) (i : Nat), Ex.den e (.var i) = gI e i) ∧ (∀ (e : List (EV U)) (o : BinOp) (k : IntKind) (a b : Ex), Ex.den e (.bin o k a b) = binDen o k (a.den e) (b.den e)) ∧ (∀ (e : List (EV U)) (k : IntKind) (a : Ex), Ex.den e (.conv k a) = k.wrap (a.den e)) ∧ (∀ (e : List (EV U)) (i : Nat), Ex.den e (.len i) = ((gL e i).length : Int)) ∧ (∀ (e : List (EV U)) (i : Nat) (a : Ex), Ex.den e (.nth i a) = (gL e i).getD (a.den e).toNat 0) ∧ (∀ (e : List (EV U)) (i : Nat) (a : Ex) (c : Nat), Ex.den e (.fld i a c) = gF e i (a.den e).toNat c) ∧ (∀ (e : List (EV U)) (i : Nat), Ex.den e (.nrow i) = (gN e i : Int)) ∧ (∀ (e : List (EV U)) (b : Bool), Bx.den e (.lit b) = b) ∧ (∀ (e : List (EV U)) (i : Nat), Bx.den e (.var i) = gB e i) ∧ (∀ (e : List (EV U)) (o : BinOp) (a b : Ex), Bx.den e (.cmp o a b) = cmpDen o (a.den e) (b.den e)) ∧ (∀ (e : List (EV U)) (a b : Bx), Bx.den e (.beq a b) = (a.den e == b.den e)) ∧ (∀ (e : List (EV U)) (a : Bx), Bx.den e (.not a) = (!a.den e)) ∧ (∀ (e : List (EV U)) (a b : Bx), Bx.den e (.and a b) = (a.den e && b.den e)) ∧ (∀ (e : List (EV U)) (i : Nat), Bx.den e (.isnil i) = gNil e i) ∧ (∀ (e : List (EV U)) (i : Nat) (a : Ex) (c : Nat), Bx.den e (.fld i a c) = (gF e i (a.den e).toNat c != 0)) ∧ (∀ (e : List (EV U)) (i : Nat) (a : Ex), Bx.den e (.mem i a) = decide (a.den e ∈ gL e i)) ∧ (∀ (e : List (EV U)) (a : Ex), Bnd.den e (.ex a) = .i (a.den e)) ∧ (∀ (e : List (EV U)) (b : Bx), Bnd.den e (.bx b) = .b (b.den e)) ∧ (∀ (e : List (EV U)) (i : Nat), Bnd.den e (.var i) = e.getD i (.i 0)) ∧ (∀ (e : List (EV U)) (i : Nat), gI e i = vI e[i]?) ∧ (∀ (n : Int), vI (some (.i n)) = n) ∧ (∀ (e : List (EV U)) (i : Nat), gB e i = vB e[i]?) ∧ (∀ (x : Bool), vB (some (.b x)) = x) ∧ (∀ (e : List (EV U)) (i : Nat), gL e i = vL e[i]?) ∧ (∀ (x : List Int), vL (some (.l x)) = x) ∧ (∀ (e : List (EV U)) (i : Nat), gF e i = vF e[i]?) ∧ (∀ (g : Nat → Nat → Int) (n : Nat), vF (some (.f g n)) = g) ∧ (∀ (e : List (EV U)) (i : Nat), gN e i = vN e[i]?) ∧ (∀ (g : Nat → Nat → Int) (n : Nat), vN (some (.f g n)) = n) ∧ (∀ (e : List (EV U)) (i : Nat), gNil e i = vU e[i]?) ∧ (∀ (s : U), vU (some (.u s)) = Nil.isNil s) ∧ (∀ s : U, Nil.isNil s = match s with | .memNil | .rmemNil | .findNil | .rfindNil => true | _ => false) ∧ (∀ (α : Type) (l : List α) (i : Nat) (d : α), l.getD i d = l[i]?.getD d) ∧ (∀ (α : Type) (n : Nat) (a : α) (l : List α), (a :: l).take (n + 1) = a :: l.take n) ∧ (∀ (α : Type) (l : List α), l.take 0 = []) ∧ (∀ (k : IntKind) (x y : Int), binDen .add k x y = k.wrap (x + y)) ∧ (∀ (k : IntKind) (x y : Int), binDen .sub k x y = k.wrap (x - y)) ∧ (∀ (k : IntKind) (x y : Int), binDen .mul k x y = k.wrap (x * y)) ∧ (∀ (k : IntKind) (x y : Int), binDen .quo k x y = k.wrap (x.tdiv y)) ∧ (∀ (k : IntKind) (x y : Int), binDen .rem k x y = x.tmod y) ∧ (∀ (k : IntKind) (x y : Int), binDen .and k x y = bits .and k x y) ∧ (∀ (k : IntKind) (x y : Int), binDen .or k x y = bits .or k x y) ∧ (∀ (k : IntKind) (x y : Int), binDen .xor k x y = bits .xor k x y) ∧ (∀ (k : IntKind) (x y : Int), binDen .andNot k x y = bits .andNot k x y) ∧ (∀ (k : IntKind) (x y : Int), binDen .shl k x y = k.wrap (x * 2 ^ min y.toNat k.bits)) ∧ (∀ (k : IntKind) (x y : Int), binDen .shr k x y = x.fdiv (2 ^ min y.toNat k.bits)) :=
 ⟨fun _ _ _ _ _ => rfl, fun _ _ _ => rfl, fun _ _ _ _ => rfl, fun _ _ => rfl, fun _ _ _ => rfl, fun _ _ _ _ => List.getElem?_cons_succ, fun _ _ _ => rfl, cmp_eql_t, cmp_eql_f, cmp_neq_t, cmp_neq_f, cmp_lss_t, cmp_lss_f, cmp_leq_t, cmp_leq_f, cmp_gtr_t, cmp_gtr_f, cmp_geq_t, cmp_geq_f, fun b => Bool.not_eq_true' b, fun b => Bool.not_eq_false' b, Bool.and_eq_true, fun a b => propext (Bool.and_eq_false_iff), fun _ _ _ => Option.some.injEq _ _, and_self, true_and, and_true, or_false, false_or, or_self, fun _ _ _ => EV.u.injEq _ _, not_true_eq_false, not_false_eq_true, Bool.true_eq_false, Bool.false_eq_true, fun _ _ _ => rfl, fun _ => beq_self_eq_true _, fun _ => beq_self_eq_true _, fun _ _ => rfl, fun _ _ => rfl, fun _ _ _ _ _ => rfl, fun _ _ _ => rfl, fun _ _ => rfl, fun _ _ _ => rfl, fun _ _ _ _ => rfl, fun _ _ => rfl, fun _ _ => rfl, fun _ _ => rfl, fun _ _ _ _ => rfl, fun _ _ _ => rfl, fun _ _ => rfl, fun _ _ _ => rfl, fun _ _ => rfl, fun _ _ _ _ => rfl, fun _ _ _ => rfl, fun _ _ => rfl, fun _ _ => rfl, fun _ _ => rfl, fun e i => by unfold gI; rcases e[i]? with _ | (_ | _ | _ | _ | _ | _) <;> rfl, fun _ => rfl, fun e i => by unfold gB; rcases e[i]? with _ | (_ | _ | _ | _ | _ | _) <;> rfl, fun _ => rfl, fun e i => by unfold gL; rcases e[i]? with _ | (_ | _ | _ | _ | _ | _) <;> rfl, fun _ => rfl, fun e i => by unfold gF; rcases e[i]? with _ | (_ | _ | _ | _ | _ | _) <;> rfl, fun _ _ => rfl, fun e i => by unfold gN; rcases e[i]? with _ | (_ | _ | _ | _ | _ | _) <;> rfl, fun _ _ => rfl, fun e i => by unfold gNil; rcases e[i]? with _ | (_ | _ | _ | _ | _ | _) <;> rfl, fun _ => rfl, fun _ => rfl, fun _ _ _ _ => rfl, fun _ _ _ _ => rfl, fun _ _ => rfl, fun _ _ _ => rfl, fun _ _ _ => rfl, fun _ _ _ => rfl, fun _ _ _ => rfl, fun _ _ _ => rfl, fun _ _ _ => rfl, fun _ _ _ => rfl, fun _ _ _ => rfl, fun _ _ _ => rfl, fun _ _ _ => rfl, fun _ _ _ => rfl⟩
def U.kind : U → Nat
 | .bad => 0
 | .mem _ => 1
 | .memNil => 2
 | .memZero => 3
 | .rmem _ => 4
 | .rmemNil => 5
 | .find _ => 6
 | .findNil => 7
 | .rfind _ => 8
 | .rfindNil => 9
def memOk (ps : List (EV U)) : Prop := ∃ l s k a o n h N, ps = [.l l, .i s, .i k, .i a, .i o, .i n, .b h, .i N] ∧ l.length = 4096 ∧ 0 ≤ s ∧ s ≤ 4096
def memObj (ps : List (EV U)) : U :=
 match ps with
 | [.l l, .i s, .i k, .i a, .i o, .i n, .b h, .i N] => .mem ⟨l.take s.toNat, k, a, o, n, h, N⟩
 | _ => .bad
def isWd (x : Int) : Prop := 0 ≤ x ∧ x < 18446744073709551616
def find10Ok (ps : List (EV U)) : Prop := ∃ a0 a1 a3 a4 a5 a6 a7 a8 a9 a10 a11 a12 key line pred ref cur w r v0 p0 k0 s0, ps = [.i a0, .i a1, .i a3, .i a4, .i a5, .i a6, .i a7, .i a8, .i a9, .i a10, .i a11, .i a12, .i key, .i line, .i pred, .i ref, .i cur, .i w, .i r, .i v0, .i p0, .i k0, .i s0] ∧ (line = 1 ∨ line = 2 ∨ line = 3 ∨ line = 4 ∨ line = 9) ∧ isWd cur ∧ isWd w
def find10Obj (ps : List (EV U)) : U := match ps with | .i a0 :: .i a1 :: .i a3 :: .i a4 :: .i a5 :: .i a6 :: .i a7 :: .i a8 :: .i a9 :: .i a10 :: .i a11 :: .i a12 :: .i key :: .i line :: .i pred :: .i ref :: .i cur :: .i w :: .i r :: .i v0 :: .i p0 :: .i k0 :: .i s0 :: [] => .find (FindSt.norm ⟨[a0, a1, 1, a3, a4, a5, a6, a7, a8, a9, a10, a11, a12], key, line, 0, pred, ref, cur, w, [p0], [s0], [k0], r⟩) | _ => .bad
def find20Ok (ps : List (EV U)) : Prop := ∃ a0 a1 a3 a4 a5 a6 a7 a8 a9 a10 a11 a12 key line pred ref cur w r v0 p0 k0 s0 v1 p1 k1 s1, ps = [.i a0, .i a1, .i a3, .i a4, .i a5, .i a6, .i a7, .i a8, .i a9, .i a10, .i a11, .i a12, .i key, .i line, .i pred, .i ref, .i cur, .i w, .i r, .i v0, .i p0, .i k0, .i s0, .i v1, .i p1, .i k1, .i s1] ∧ (line = 1 ∨ line = 2 ∨ line = 3 ∨ line = 4 ∨ line = 9) ∧ isWd cur ∧ isWd w
def find20Obj (ps : List (EV U)) : U := match ps with | .i a0 :: .i a1 :: .i a3 :: .i a4 :: .i a5 :: .i a6 :: .i a7 :: .i a8 :: .i a9 :: .i a10 :: .i a11 :: .i a12 :: .i key :: .i line :: .i pred :: .i ref :: .i cur :: .i w :: .i r :: .i v0 :: .i p0 :: .i k0 :: .i s0 :: .i v1 :: .i p1 :: .i k1 :: .i s1 :: [] => .find (FindSt.norm ⟨[a0, a1, 2, a3, a4, a5, a6, a7, a8, a9, a10, a11, a12], key, line, 0, pred, ref, cur, w, [p0, p1], [s0, s1], [k0, k1], r⟩) | _ => .bad
def find21Ok (ps : List (EV U)) : Prop := ∃ a0 a1 a3 a4 a5 a6 a7 a8 a9 a10 a11 a12 key line pred ref cur w r v0 p0 k0 s0 v1 p1 k1 s1, ps = [.i a0, .i a1, .i a3, .i a4, .i a5, .i a6, .i a7, .i a8, .i a9, .i a10, .i a11, .i a12, .i key, .i line, .i pred, .i ref, .i cur, .i w, .i r, .i v0, .i p0, .i k0, .i s0, .i v1, .i p1, .i k1, .i s1] ∧ (line = 1 ∨ line = 2 ∨ line = 3 ∨ line = 4) ∧ isWd cur ∧ isWd w
def find21Obj (ps : List (EV U)) : U := match ps with | .i a0 :: .i a1 :: .i a3 :: .i a4 :: .i a5 :: .i a6 :: .i a7 :: .i a8 :: .i a9 :: .i a10 :: .i a11 :: .i a12 :: .i key :: .i line :: .i pred :: .i ref :: .i cur :: .i w :: .i r :: .i v0 :: .i p0 :: .i k0 :: .i s0 :: .i v1 :: .i p1 :: .i k1 :: .i s1 :: [] => .find (FindSt.norm ⟨[a0, a1, 2, a3, a4, a5, a6, a7, a8, a9, a10, a11, a12], key, line, 1, pred, ref, cur, w, [p0, p1], [s0, s1], [k0, k1], r⟩) | _ => .bad
def find30Ok (ps : List (EV U)) : Prop := ∃ a0 a1 a3 a4 a5 a6 a7 a8 a9 a10 a11 a12 key line pred ref cur w r v0 p0 k0 s0 v1 p1 k1 s1 v2 p2 k2 s2, ps = [.i a0, .i a1, .i a3, .i a4, .i a5, .i a6, .i a7, .i a8, .i a9, .i a10, .i a11, .i a12, .i key, .i line, .i pred, .i ref, .i cur, .i w, .i r, .i v0, .i p0, .i k0, .i s0, .i v1, .i p1, .i k1, .i s1, .i v2, .i p2, .i k2, .i s2] ∧ (line = 1 ∨ line = 2 ∨ line = 3 ∨ line = 4 ∨ line = 9) ∧ isWd cur ∧ isWd w
def find30Obj (ps : List (EV U)) : U := match ps with | .i a0 :: .i a1 :: .i a3 :: .i a4 :: .i a5 :: .i a6 :: .i a7 :: .i a8 :: .i a9 :: .i a10 :: .i a11 :: .i a12 :: .i key :: .i line :: .i pred :: .i ref :: .i cur :: .i w :: .i r :: .i v0 :: .i p0 :: .i k0 :: .i s0 :: .i v1 :: .i p1 :: .i k1 :: .i s1 :: .i v2 :: .i p2 :: .i k2 :: .i s2 :: [] => .find (FindSt.norm ⟨[a0, a1, 3, a3, a4, a5, a6, a7, a8, a9, a10, a11, a12], key, line, 0, pred, ref, cur, w, [p0, p1, p2], [s0, s1, s2], [k0, k1, k2], r⟩) | _ => .bad
def find31Ok (ps : List (EV U)) : Prop := ∃ a0 a1 a3 a4 a5 a6 a7 a8 a9 a10 a11 a12 key line pred ref cur w r v0 p0 k0 s0 v1 p1 k1 s1 v2 p2 k2 s2, ps = [.i a0, .i a1, .i a3, .i a4, .i a5, .i a6, .i a7, .i a8, .i a9, .i a10, .i a11, .i a12, .i key, .i line, .i pred, .i ref, .i cur, .i w, .i r, .i v0, .i p0, .i k0, .i s0, .i v1, .i p1, .i k1, .i s1, .i v2, .i p2, .i k2, .i s2] ∧ (line = 1 ∨ line = 2 ∨ line = 3 ∨ line = 4) ∧ isWd cur ∧ isWd w
def find31Obj (ps : List (EV U)) : U := match ps with | .i a0 :: .i a1 :: .i a3 :: .i a4 :: .i a5 :: .i a6 :: .i a7 :: .i a8 :: .i a9 :: .i a10 :: .i a11 :: .i a12 :: .i key :: .i line :: .i pred :: .i ref :: .i cur :: .i w :: .i r :: .i v0 :: .i p0 :: .i k0 :: .i s0 :: .i v1 :: .i p1 :: .i k1 :: .i s1 :: .i v2 :: .i p2 :: .i k2 :: .i s2 :: [] => .find (FindSt.norm ⟨[a0, a1, 3, a3, a4, a5, a6, a7, a8, a9, a10, a11, a12], key, line, 1, pred, ref, cur, w, [p0, p1, p2], [s0, s1, s2], [k0, k1, k2], r⟩) | _ => .bad
def find32Ok (ps : List (EV U)) : Prop := ∃ a0 a1 a3 a4 a5 a6 a7 a8 a9 a10 a11 a12 key line pred ref cur w r v0 p0 k0 s0 v1 p1 k1 s1 v2 p2 k2 s2, ps = [.i a0, .i a1, .i a3, .i a4, .i a5, .i a6, .i a7, .i a8, .i a9, .i a10, .i a11, .i a12, .i key, .i line, .i pred, .i ref, .i cur, .i w, .i r, .i v0, .i p0, .i k0, .i s0, .i v1, .i p1, .i k1, .i s1, .i v2, .i p2, .i k2, .i s2] ∧ (line = 1 ∨ line = 2 ∨ line = 3 ∨ line = 4) ∧ isWd cur ∧ isWd w
def find32Obj (ps : List (EV U)) : U := match ps with | .i a0 :: .i a1 :: .i a3 :: .i a4 :: .i a5 :: .i a6 :: .i a7 :: .i a8 :: .i a9 :: .i a10 :: .i a11 :: .i a12 :: .i key :: .i line :: .i pred :: .i ref :: .i cur :: .i w :: .i r :: .i v0 :: .i p0 :: .i k0 :: .i s0 :: .i v1 :: .i p1 :: .i k1 :: .i s1 :: .i v2 :: .i p2 :: .i k2 :: .i s2 :: [] => .find (FindSt.norm ⟨[a0, a1, 3, a3, a4, a5, a6, a7, a8, a9, a10, a11, a12], key, line, 2, pred, ref, cur, w, [p0, p1, p2], [s0, s1, s2], [k0, k1, k2], r⟩) | _ => .bad
def find40Ok (ps : List (EV U)) : Prop := ∃ a0 a1 a3 a4 a5 a6 a7 a8 a9 a10 a11 a12 key line pred ref cur w r v0 p0 k0 s0 v1 p1 k1 s1 v2 p2 k2 s2 v3 p3 k3 s3, ps = [.i a0, .i a1, .i a3, .i a4, .i a5, .i a6, .i a7, .i a8, .i a9, .i a10, .i a11, .i a12, .i key, .i line, .i pred, .i ref, .i cur, .i w, .i r, .i v0, .i p0, .i k0, .i s0, .i v1, .i p1, .i k1, .i s1, .i v2, .i p2, .i k2, .i s2, .i v3, .i p3, .i k3, .i s3] ∧ (line = 1 ∨ line = 2 ∨ line = 3 ∨ line = 4 ∨ line = 9) ∧ isWd cur ∧ isWd w
def find40Obj (ps : List (EV U)) : U := match ps with | .i a0 :: .i a1 :: .i a3 :: .i a4 :: .i a5 :: .i a6 :: .i a7 :: .i a8 :: .i a9 :: .i a10 :: .i a11 :: .i a12 :: .i key :: .i line :: .i pred :: .i ref :: .i cur :: .i w :: .i r :: .i v0 :: .i p0 :: .i k0 :: .i s0 :: .i v1 :: .i p1 :: .i k1 :: .i s1 :: .i v2 :: .i p2 :: .i k2 :: .i s2 :: .i v3 :: .i p3 :: .i k3 :: .i s3 :: [] => .find (FindSt.norm ⟨[a0, a1, 4, a3, a4, a5, a6, a7, a8, a9, a10, a11, a12], key, line, 0, pred, ref, cur, w, [p0, p1, p2, p3], [s0, s1, s2, s3], [k0, k1, k2, k3], r⟩) | _ => .bad
def find41Ok (ps : List (EV U)) : Prop := ∃ a0 a1 a3 a4 a5 a6 a7 a8 a9 a10 a11 a12 key line pred ref cur w r v0 p0 k0 s0 v1 p1 k1 s1 v2 p2 k2 s2 v3 p3 k3 s3, ps = [.i a0, .i a1, .i a3, .i a4, .i a5, .i a6, .i a7, .i a8, .i a9, .i a10, .i a11, .i a12, .i key, .i line, .i pred, .i ref, .i cur, .i w, .i r, .i v0, .i p0, .i k0, .i s0, .i v1, .i p1, .i k1, .i s1, .i v2, .i p2, .i k2, .i s2, .i v3, .i p3, .i k3, .i s3] ∧ (line = 1 ∨ line = 2 ∨ line = 3 ∨ line = 4) ∧ isWd cur ∧ isWd w
def find41Obj (ps : List (EV U)) : U := match ps with | .i a0 :: .i a1 :: .i a3 :: .i a4 :: .i a5 :: .i a6 :: .i a7 :: .i a8 :: .i a9 :: .i a10 :: .i a11 :: .i a12 :: .i key :: .i line :: .i pred :: .i ref :: .i cur :: .i w :: .i r :: .i v0 :: .i p0 :: .i k0 :: .i s0 :: .i v1 :: .i p1 :: .i k1 :: .i s1 :: .i v2 :: .i p2 :: .i k2 :: .i s2 :: .i v3 :: .i p3 :: .i k3 :: .i s3 :: [] => .find (FindSt.norm ⟨[a0, a1, 4, a3, a4, a5, a6, a7, a8, a9, a10, a11, a12], key, line, 1, pred, ref, cur, w, [p0, p1, p2, p3], [s0, s1, s2, s3], [k0, k1, k2, k3], r⟩) | _ => .bad
def find42Ok (ps : List (EV U)) : Prop := ∃ a0 a1 a3 a4 a5 a6 a7 a8 a9 a10 a11 a12 key line pred ref cur w r v0 p0 k0 s0 v1 p1 k1 s1 v2 p2 k2 s2 v3 p3 k3 s3, ps = [.i a0, .i a1, .i a3, .i a4, .i a5, .i a6, .i a7, .i a8, .i a9, .i a10, .i a11, .i a12, .i key, .i line, .i pred, .i ref, .i cur, .i w, .i r, .i v0, .i p0, .i k0, .i s0, .i v1, .i p1, .i k1, .i s1, .i v2, .i p2, .i k2, .i s2, .i v3, .i p3, .i k3, .i s3] ∧ (line = 1 ∨ line = 2 ∨ line = 3 ∨ line = 4) ∧ isWd cur ∧ isWd w
def find42Obj (ps : List (EV U)) : U := match ps with | .i a0 :: .i a1 :: .i a3 :: .i a4 :: .i a5 :: .i a6 :: .i a7 :: .i a8 :: .i a9 :: .i a10 :: .i a11 :: .i a12 :: .i key :: .i line :: .i pred :: .i ref :: .i cur :: .i w :: .i r :: .i v0 :: .i p0 :: .i k0 :: .i s0 :: .i v1 :: .i p1 :: .i k1 :: .i s1 :: .i v2 :: .i p2 :: .i k2 :: .i s2 :: .i v3 :: .i p3 :: .i k3 :: .i s3 :: [] => .find (FindSt.norm ⟨[a0, a1, 4, a3, a4, a5, a6, a7, a8, a9, a10, a11, a12], key, line, 2, pred, ref, cur, w, [p0, p1, p2, p3], [s0, s1, s2, s3], [k0, k1, k2, k3], r⟩) | _ => .bad
def find43Ok (ps : List (EV U)) : Prop := ∃ a0 a1 a3 a4 a5 a6 a7 a8 a9 a10 a11 a12 key line pred ref cur w r v0 p0 k0 s0 v1 p1 k1 s1 v2 p2 k2 s2 v3 p3 k3 s3, ps = [.i a0, .i a1, .i a3, .i a4, .i a5, .i a6, .i a7, .i a8, .i a9, .i a10, .i a11, .i a12, .i key, .i line, .i pred, .i ref, .i cur, .i w, .i r, .i v0, .i p0, .i k0, .i s0, .i v1, .i p1, .i k1, .i s1, .i v2, .i p2, .i k2, .i s2, .i v3, .i p3, .i k3, .i s3] ∧ (line = 1 ∨ line = 2 ∨ line = 3 ∨ line = 4) ∧ isWd cur ∧ isWd w
def find43Obj (ps : List (EV U)) : U := match ps with | .i a0 :: .i a1 :: .i a3 :: .i a4 :: .i a5 :: .i a6 :: .i a7 :: .i a8 :: .i a9 :: .i a10 :: .i a11 :: .i a12 :: .i key :: .i line :: .i pred :: .i ref :: .i cur :: .i w :: .i r :: .i v0 :: .i p0 :: .i k0 :: .i s0 :: .i v1 :: .i p1 :: .i k1 :: .i s1 :: .i v2 :: .i p2 :: .i k2 :: .i s2 :: .i v3 :: .i p3 :: .i k3 :: .i s3 :: [] => .find (FindSt.norm ⟨[a0, a1, 4, a3, a4, a5, a6, a7, a8, a9, a10, a11, a12], key, line, 3, pred, ref, cur, w, [p0, p1, p2, p3], [s0, s1, s2, s3], [k0, k1, k2, k3], r⟩) | _ => .bad
def memT : ObjT U := { nv := 8, hp := [.cells [.ptr 1 0, .int .i64 (.var 1), .int .i64 (.var 2), .int .i64 (.var 3), .int .u64 (.var 4), .int .u64 (.var 5), .bool (.var 6), .int .i64 (.var 7)] 120, .row .u64 116 0], isNil := false, ok := memOk, obj := memObj }
def memNilT : ObjT U := { nv := 0, hp := [], isNil := true, ok := fun ps => ps = [], obj := fun _ => .memNil }
def memZeroT : ObjT U := { nv := 0, hp := [.cells [.nilp, .int .i64 (.lit 0), .int .i64 (.lit 0), .int .i64 (.lit 0), .int .u64 (.lit 0), .int .u64 (.lit 0), .bool (.lit false), .int .i64 (.lit 0)] 120], isNil := false, ok := fun ps => ps = [], obj := fun _ => .memZero }
def rmemT : ObjT U := { nv := 0, hp := [], isNil := true, ok := fun ps => ps = [], obj := fun _ => .rmemNil }
def rmemNilT : ObjT U := { nv := 0, hp := [], isNil := true, ok := fun ps => ps = [], obj := fun _ => .rmemNil }
def find10 : ObjT U := { nv := 23, hp := [.cells [.int .i64 (.var 0), .int .i64 (.var 1), .int .i64 (.lit 1), .int .i64 (.var 2), .int .i64 (.var 3), .int .i64 (.var 4), .int .i64 (.var 5), .int .i64 (.var 6), .int .i64 (.var 7), .int .i64 (.var 8), .int .i64 (.var 9), .int .i64 (.var 10), .int .i64 (.var 11), .int .u64 (.var 12), .int .i64 (.var 13), .int .i64 (.lit 0), .int .i64 (.var 14), .int .u64 (.var 15), .int .u64 (.var 16), .int .u64 (.var 17), .slice 1 (.lit 1) (.lit 1), .int .u64 (.var 18), .bool (.lit true), .int .i64 (.lit 0)] 71, .cells [.int .i64 (.var 19), .int .i64 (.var 20), .int .u64 (.var 21), .int .u64 (.var 22)] 68], isNil := false, ok := find10Ok, obj := find10Obj }
def find20 : ObjT U := { nv := 27, hp := [.cells [.int .i64 (.var 0), .int .i64 (.var 1), .int .i64 (.lit 2), .int .i64 (.var 2), .int .i64 (.var 3), .int .i64 (.var 4), .int .i64 (.var 5), .int .i64 (.var 6), .int .i64 (.var 7), .int .i64 (.var 8), .int .i64 (.var 9), .int .i64 (.var 10), .int .i64 (.var 11), .int .u64 (.var 12), .int .i64 (.var 13), .int .i64 (.lit 0), .int .i64 (.var 14), .int .u64 (.var 15), .int .u64 (.var 16), .int .u64 (.var 17), .slice 1 (.lit 2) (.lit 2), .int .u64 (.var 18), .bool (.lit true), .int .i64 (.lit 0)] 71, .cells [.int .i64 (.var 19), .int .i64 (.var 20), .int .u64 (.var 21), .int .u64 (.var 22), .int .i64 (.var 23), .int .i64 (.var 24), .int .u64 (.var 25), .int .u64 (.var 26)] 68], isNil := false, ok := find20Ok, obj := find20Obj }
def find21 : ObjT U := { nv := 27, hp := [.cells [.int .i64 (.var 0), .int .i64 (.var 1), .int .i64 (.lit 2), .int .i64 (.var 2), .int .i64 (.var 3), .int .i64 (.var 4), .int .i64 (.var 5), .int .i64 (.var 6), .int .i64 (.var 7), .int .i64 (.var 8), .int .i64 (.var 9), .int .i64 (.var 10), .int .i64 (.var 11), .int .u64 (.var 12), .int .i64 (.var 13), .int .i64 (.lit 1), .int .i64 (.var 14), .int .u64 (.var 15), .int .u64 (.var 16), .int .u64 (.var 17), .slice 1 (.lit 2) (.lit 2), .int .u64 (.var 18), .bool (.lit true), .int .i64 (.lit 0)] 71, .cells [.int .i64 (.var 19), .int .i64 (.var 20), .int .u64 (.var 21), .int .u64 (.var 22), .int .i64 (.var 23), .int .i64 (.var 24), .int .u64 (.var 25), .int .u64 (.var 26)] 68], isNil := false, ok := find21Ok, obj := find21Obj }
def find30 : ObjT U := { nv := 31, hp := [.cells [.int .i64 (.var 0), .int .i64 (.var 1), .int .i64 (.lit 3), .int .i64 (.var 2), .int .i64 (.var 3), .int .i64 (.var 4), .int .i64 (.var 5), .int .i64 (.var 6), .int .i64 (.var 7), .int .i64 (.var 8), .int .i64 (.var 9), .int .i64 (.var 10), .int .i64 (.var 11), .int .u64 (.var 12), .int .i64 (.var 13), .int .i64 (.lit 0), .int .i64 (.var 14), .int .u64 (.var 15), .int .u64 (.var 16), .int .u64 (.var 17), .slice 1 (.lit 3) (.lit 3), .int .u64 (.var 18), .bool (.lit true), .int .i64 (.lit 0)] 71, .cells [.int .i64 (.var 19), .int .i64 (.var 20), .int .u64 (.var 21), .int .u64 (.var 22), .int .i64 (.var 23), .int .i64 (.var 24), .int .u64 (.var 25), .int .u64 (.var 26), .int .i64 (.var 27), .int .i64 (.var 28), .int .u64 (.var 29), .int .u64 (.var 30)] 68], isNil := false, ok := find30Ok, obj := find30Obj }
def find31 : ObjT U := { nv := 31, hp := [.cells [.int .i64 (.var 0), .int .i64 (.var 1), .int .i64 (.lit 3), .int .i64 (.var 2), .int .i64 (.var 3), .int .i64 (.var 4), .int .i64 (.var 5), .int .i64 (.var 6), .int .i64 (.var 7), .int .i64 (.var 8), .int .i64 (.var 9), .int .i64 (.var 10), .int .i64 (.var 11), .int .u64 (.var 12), .int .i64 (.var 13), .int .i64 (.lit 1), .int .i64 (.var 14), .int .u64 (.var 15), .int .u64 (.var 16), .int .u64 (.var 17), .slice 1 (.lit 3) (.lit 3), .int .u64 (.var 18), .bool (.lit true), .int .i64 (.lit 0)] 71, .cells [.int .i64 (.var 19), .int .i64 (.var 20), .int .u64 (.var 21), .int .u64 (.var 22), .int .i64 (.var 23), .int .i64 (.var 24), .int .u64 (.var 25), .int .u64 (.var 26), .int .i64 (.var 27), .int .i64 (.var 28), .int .u64 (.var 29), .int .u64 (.var 30)] 68], isNil := false, ok := find31Ok, obj := find31Obj }
def find32 : ObjT U := { nv := 31, hp := [.cells [.int .i64 (.var 0), .int .i64 (.var 1), .int .i64 (.lit 3), .int .i64 (.var 2), .int .i64 (.var 3), .int .i64 (.var 4), .int .i64 (.var 5), .int .i64 (.var 6), .int .i64 (.var 7), .int .i64 (.var 8), .int .i64 (.var 9), .int .i64 (.var 10), .int .i64 (.var 11), .int .u64 (.var 12), .int .i64 (.var 13), .int .i64 (.lit 2), .int .i64 (.var 14), .int .u64 (.var 15), .int .u64 (.var 16), .int .u64 (.var 17), .slice 1 (.lit 3) (.lit 3), .int .u64 (.var 18), .bool (.lit true), .int .i64 (.lit 0)] 71, .cells [.int .i64 (.var 19), .int .i64 (.var 20), .int .u64 (.var 21), .int .u64 (.var 22), .int .i64 (.var 23), .int .i64 (.var 24), .int .u64 (.var 25), .int .u64 (.var 26), .int .i64 (.var 27), .int .i64 (.var 28), .int .u64 (.var 29), .int .u64 (.var 30)] 68], isNil := false, ok := find32Ok, obj := find32Obj }
def find40 : ObjT U := { nv := 35, hp := [.cells [.int .i64 (.var 0), .int .i64 (.var 1), .int .i64 (.lit 4), .int .i64 (.var 2), .int .i64 (.var 3), .int .i64 (.var 4), .int .i64 (.var 5), .int .i64 (.var 6), .int .i64 (.var 7), .int .i64 (.var 8), .int .i64 (.var 9), .int .i64 (.var 10), .int .i64 (.var 11), .int .u64 (.var 12), .int .i64 (.var 13), .int .i64 (.lit 0), .int .i64 (.var 14), .int .u64 (.var 15), .int .u64 (.var 16), .int .u64 (.var 17), .slice 1 (.lit 4) (.lit 4), .int .u64 (.var 18), .bool (.lit true), .int .i64 (.lit 0)] 71, .cells [.int .i64 (.var 19), .int .i64 (.var 20), .int .u64 (.var 21), .int .u64 (.var 22), .int .i64 (.var 23), .int .i64 (.var 24), .int .u64 (.var 25), .int .u64 (.var 26), .int .i64 (.var 27), .int .i64 (.var 28), .int .u64 (.var 29), .int .u64 (.var 30), .int .i64 (.var 31), .int .i64 (.var 32), .int .u64 (.var 33), .int .u64 (.var 34)] 68], isNil := false, ok := find40Ok, obj := find40Obj }
def find41 : ObjT U := { nv := 35, hp := [.cells [.int .i64 (.var 0), .int .i64 (.var 1), .int .i64 (.lit 4), .int .i64 (.var 2), .int .i64 (.var 3), .int .i64 (.var 4), .int .i64 (.var 5), .int .i64 (.var 6), .int .i64 (.var 7), .int .i64 (.var 8), .int .i64 (.var 9), .int .i64 (.var 10), .int .i64 (.var 11), .int .u64 (.var 12), .int .i64 (.var 13), .int .i64 (.lit 1), .int .i64 (.var 14), .int .u64 (.var 15), .int .u64 (.var 16), .int .u64 (.var 17), .slice 1 (.lit 4) (.lit 4), .int .u64 (.var 18), .bool (.lit true), .int .i64 (.lit 0)] 71, .cells [.int .i64 (.var 19), .int .i64 (.var 20), .int .u64 (.var 21), .int .u64 (.var 22), .int .i64 (.var 23), .int .i64 (.var 24), .int .u64 (.var 25), .int .u64 (.var 26), .int .i64 (.var 27), .int .i64 (.var 28), .int .u64 (.var 29), .int .u64 (.var 30), .int .i64 (.var 31), .int .i64 (.var 32), .int .u64 (.var 33), .int .u64 (.var 34)] 68], isNil := false, ok := find41Ok, obj := find41Obj }
def find42 : ObjT U := { nv := 35, hp := [.cells [.int .i64 (.var 0), .int .i64 (.var 1), .int .i64 (.lit 4), .int .i64 (.var 2), .int .i64 (.var 3), .int .i64 (.var 4), .int .i64 (.var 5), .int .i64 (.var 6), .int .i64 (.var 7), .int .i64 (.var 8), .int .i64 (.var 9), .int .i64 (.var 10), .int .i64 (.var 11), .int .u64 (.var 12), .int .i64 (.var 13), .int .i64 (.lit 2), .int .i64 (.var 14), .int .u64 (.var 15), .int .u64 (.var 16), .int .u64 (.var 17), .slice 1 (.lit 4) (.lit 4), .int .u64 (.var 18), .bool (.lit true), .int .i64 (.lit 0)] 71, .cells [.int .i64 (.var 19), .int .i64 (.var 20), .int .u64 (.var 21), .int .u64 (.var 22), .int .i64 (.var 23), .int .i64 (.var 24), .int .u64 (.var 25), .int .u64 (.var 26), .int .i64 (.var 27), .int .i64 (.var 28), .int .u64 (.var 29), .int .u64 (.var 30), .int .i64 (.var 31), .int .i64 (.var 32), .int .u64 (.var 33), .int .u64 (.var 34)] 68], isNil := false, ok := find42Ok, obj := find42Obj }
def find43 : ObjT U := { nv := 35, hp := [.cells [.int .i64 (.var 0), .int .i64 (.var 1), .int .i64 (.lit 4), .int .i64 (.var 2), .int .i64 (.var 3), .int .i64 (.var 4), .int .i64 (.var 5), .int .i64 (.var 6), .int .i64 (.var 7), .int .i64 (.var 8), .int .i64 (.var 9), .int .i64 (.var 10), .int .i64 (.var 11), .int .u64 (.var 12), .int .i64 (.var 13), .int .i64 (.lit 3), .int .i64 (.var 14), .int .u64 (.var 15), .int .u64 (.var 16), .int .u64 (.var 17), .slice 1 (.lit 4) (.lit 4), .int .u64 (.var 18), .bool (.lit true), .int .i64 (.lit 0)] 71, .cells [.int .i64 (.var 19), .int .i64 (.var 20), .int .u64 (.var 21), .int .u64 (.var 22), .int .i64 (.var 23), .int .i64 (.var 24), .int .u64 (.var 25), .int .u64 (.var 26), .int .i64 (.var 27), .int .i64 (.var 28), .int .u64 (.var 29), .int .u64 (.var 30), .int .i64 (.var 31), .int .i64 (.var 32), .int .u64 (.var 33), .int .u64 (.var 34)] 68], isNil := false, ok := find43Ok, obj := find43Obj }
def findNilT : ObjT U := { nv := 0, hp := [], isNil := true, ok := fun ps => ps = [], obj := fun _ => .findNil }
def rfindT : ObjT U := { nv := 0, hp := [], isNil := true, ok := fun ps => ps = [], obj := fun _ => .rfindNil }
def rfindNilT : ObjT U := { nv := 0, hp := [], isNil := true, ok := fun ps => ps = [], obj := fun _ => .rfindNil }
def objs : List (ObjT U) := [memT, memNilT, memZeroT, rmemT, rmemNilT, find10, find20, find21, find30, find31, find32, find40, find41, find42, find43, findNilT, rfindT, rfindNilT]
theorem objs_all {p : Nat → ObjT U → Prop} (h0 : p 0 memT) (h1 : p 1 memNilT) (h2 : p 2 memZeroT) (h3 : p 3 rmemT) (h4 : p 4 rmemNilT) (h5 : p 5 find10) (h6 : p 6 find20) (h7 : p 7 find21) (h8 : p 8 find30) (h9 : p 9 find31) (h10 : p 10 find32) (h11 : p 11 find40) (h12 : p 12 find41) (h13 : p 13 find42) (h14 : p 14 find43) (h15 : p 15 findNilT) (h16 : p 16 rfindT) (h17 : p 17 rfindNilT) : ∀ (t : Nat) (T : ObjT U), objs[t]? = some T → p t T := by
 intro t T h
 match t, h with
 | 0, h => cases h; exact h0
 | 1, h => cases h; exact h1
 | 2, h => cases h; exact h2
 | 3, h => cases h; exact h3
 | 4, h => cases h; exact h4
 | 5, h => cases h; exact h5
 | 6, h => cases h; exact h6
 | 7, h => cases h; exact h7
 | 8, h => cases h; exact h8
 | 9, h => cases h; exact h9
 | 10, h => cases h; exact h10
 | 11, h => cases h; exact h11
 | 12, h => cases h; exact h12
 | 13, h => cases h; exact h13
 | 14, h => cases h; exact h14
 | 15, h => cases h; exact h15
 | 16, h => cases h; exact h16
 | 17, h => cases h; exact h17
 | t + 18, h => cases h
theorem objsOk : ObjsOk objs := by
 refine ⟨objs_all ?_ ?_ ?_ ?_ ?_ ?_ ?_ ?_ ?_ ?_ ?_ ?_ ?_ ?_ ?_ ?_ ?_ ?_, objs_all ?_ ?_ ?_ ?_ ?_ ?_ ?_ ?_ ?_ ?_ ?_ ?_ ?_ ?_ ?_ ?_ ?_ ?_, objs_all ?_ ?_ ?_ ?_ ?_ ?_ ?_ ?_ ?_ ?_ ?_ ?_ ?_ ?_ ?_ ?_ ?_ ?_, objs_all ?_ ?_ ?_ ?_ ?_ ?_ ?_ ?_ ?_ ?_ ?_ ?_ ?_ ?_ ?_ ?_ ?_ ?_⟩
 all_goals first
  | (rintro ps ⟨l, s, k, a, o, n, h, N, rfl, _⟩; rfl)
  | (rintro ps ⟨_, _, _, _, _, _, _, _, _, _, _, _, _, _, _, _, _, _, _, _, _, _, _, rfl, _⟩; rfl)
  | (rintro ps ⟨_, _, _, _, _, _, _, _, _, _, _, _, _, _, _, _, _, _, _, _, _, _, _, _, _, _, _, rfl, _⟩; rfl)
  | (rintro ps ⟨_, _, _, _, _, _, _, _, _, _, _, _, _, _, _, _, _, _, _, _, _, _, _, _, _, _, _, _, _, _, _, rfl, _⟩; rfl)
  | (rintro ps ⟨_, _, _, _, _, _, _, _, _, _, _, _, _, _, _, _, _, _, _, _, _, _, _, _, _, _, _, _, _, _, _, _, _, _, _, rfl, _⟩; rfl)
  | (rintro ps ⟨_, _, _, _, _, _, _, _, _, _, _, _, _, _, _, _, _, _, _, _, _, _, _, _, rfl, _⟩; rfl)
  | (rintro ps rfl; rfl)
  | (intro h; cases h; done)
  | (intro _; rfl)
  | (intro _; exact ⟨_, _, rfl⟩)
  | (intro n h hh; match n, hh with | 0, hh => cases hh; rfl | 1, hh => cases hh; rfl | n + 2, hh => cases hh)
  | (intro n h hh; match n, hh with | 0, hh => cases hh; rfl | n + 1, hh => cases hh)
  | (intro n h hh; match n, hh with | 0, hh => cases hh; rfl | 1, hh => cases hh; rfl | 2, hh => cases hh; rfl | 3, hh => cases hh; rfl | n + 4, hh => cases hh)
  | (intro n h hh; cases hh)
def kinds : List Nat := [1, 2, 3, 5, 5, 6, 6, 6, 6, 6, 6, 6, 6, 6, 6, 7, 9, 9]
theorem kind_of : ∀ (t : Nat) (T : ObjT U), objs[t]? = some T → ∀ ps, T.ok ps → (T.obj ps).kind = kinds.getD t 0 := by
 refine objs_all ?_ ?_ ?_ ?_ ?_ ?_ ?_ ?_ ?_ ?_ ?_ ?_ ?_ ?_ ?_ ?_ ?_ ?_
 all_goals first
  | (rintro ps ⟨l, s, k, a, o, n, h, N, rfl, _⟩; rfl)
  | (rintro ps ⟨_, _, _, _, _, _, _, _, _, _, _, _, _, _, _, _, _, _, _, _, _, _, _, rfl, _⟩; rfl)
  | (rintro ps ⟨_, _, _, _, _, _, _, _, _, _, _, _, _, _, _, _, _, _, _, _, _, _, _, _, _, _, _, rfl, _⟩; rfl)
  | (rintro ps ⟨_, _, _, _, _, _, _, _, _, _, _, _, _, _, _, _, _, _, _, _, _, _, _, _, _, _, _, _, _, _, _, rfl, _⟩; rfl)
  | (rintro ps ⟨_, _, _, _, _, _, _, _, _, _, _, _, _, _, _, _, _, _, _, _, _, _, _, _, _, _, _, _, _, _, _, _, _, _, _, rfl, _⟩; rfl)
  | (rintro ps ⟨_, _, _, _, _, _, _, _, _, _, _, _, _, _, _, _, _, _, _, _, _, _, _, _, rfl, _⟩; rfl)
  | (rintro ps rfl; rfl)
theorem nomore_kind {u : U} {ts : List Nat} (h : ∀ t, t < 18 → t ∉ ts → kinds.getD t 0 ≠ u.kind) : ∀ (t : Nat) (T : ObjT U) (ps : List (EV U)), objs[t]? = some T → t ∉ ts → ps.length = T.nv → T.ok ps → some (EV.u u) ≠ some (EV.u (T.obj ps)) := by
 intro t T ps ht hn _ hok e
 injection e with e; injection e with e
 have hk := kind_of t T ht ps hok
 rw [← e] at hk
 exact h t (List.getElem?_eq_some_iff.1 ht).1 hn hk.symm
theorem mixed : Try.prog.follows .mixedOrders = true := by kernel_rfl
def cx (P : Program) (cts : List (Ctr U)) : Cx U := { P := P, cts := cts, objs := objs, loops := [], hints := [] }
def cLoad : Ctr U :=
 { fn := 79, nin := 2, args := [.hnd 0, .int .i64 (.var 1)], heap := [.abs 0]
   pre := fun ins => ∃ M at_, ins = [.u (.mem M), .i at_], nout := 2
   out := fun ins => match ins with | [.u (.mem M), .i at_] => [.u (.mem (M.load at_)), .i (M.load at_).n] | _ => []
   ret := .int .u64 (.var 3), post := [.abs 2] }
def cStore : Ctr U :=
 { fn := 43, nin := 3, args := [.hnd 0, .int .i64 (.var 1), .int .u64 (.var 2)], heap := [.abs 0]
   pre := fun ins => ∃ M at_ x, ins = [.u (.mem M), .i at_, .i x], nout := 1
   out := fun ins => match ins with | [.u (.mem M), .i at_, .i x] => [.u (.mem (M.store at_ x))] | _ => []
   ret := .tuple [], post := [.abs 3] }
def cCAS : Ctr U :=
 { fn := 81, nin := 4, args := [.hnd 0, .int .i64 (.var 1), .int .u64 (.var 2), .int .u64 (.var 3)], heap := [.abs 0]
   pre := fun ins => ∃ M at_ x y, ins = [.u (.mem M), .i at_, .i x, .i y], nout := 2
   out := fun ins => match ins with | [.u (.mem M), .i at_, .i x, .i y] => [.u (.mem (M.cas at_ x y)), .b (M.cas at_ x y).h] | _ => []
   ret := .bool (.var 5), post := [.abs 4] }
def cNew : Ctr U :=
 { fn := 19, nin := 1, args := [.int .i64 (.var 0)], heap := []
   pre := fun ins => ∃ n, ins = [.i n], nout := 2
   out := fun ins => match ins with | [.i n] => if 1 ≤ n ∧ n ≤ 4096 then [.u (.mem (.new n)), .i 0] else [.u .memNil, .i 3] | _ => []
   ret := .tuple [.hnd 0, .int .i64 (.var 2)], post := [.abs 1] }
def cLast : Ctr U :=
 { fn := 90, nin := 1, args := [.hnd 0], heap := [.abs 0]
   pre := fun ins => ∃ M, ins = [.u (.mem M)], nout := 6
   out := fun ins => match ins with | [.u (.mem M)] => [.u (.mem M), .i M.k, .i M.a, .i M.o, .i M.n, .b M.h] | _ => []
   ret := .agg [.int .i64 (.var 2), .int .i64 (.var 3), .int .u64 (.var 4), .int .u64 (.var 5), .bool (.var 6)], post := [.abs 1] }
set_option maxRecDepth 100000
def tLoad : Tree := (.and (.opn 0 0 (.br (.cmp .lss (.var 1) (.lit 0))
 (.ext (.mk 0 [.var 2, .ex (.var 3), .ex (.lit 1), .ex (.var 1), .ex (.lit 0), .ex (.lit 0), .bx (.lit false), .ex (.bin .add .i64 (.var 9) (.lit 1))]) (.ret [.var 10, .ex (.lit 0)]))
 (.br (.cmp .geq (.var 1) (.var 3))
 (.ext (.mk 0 [.var 2, .ex (.var 3), .ex (.lit 1), .ex (.var 1), .ex (.lit 0), .ex (.lit 0), .bx (.lit false), .ex (.bin .add .i64 (.var 9) (.lit 1))]) (.ret [.var 10, .ex (.lit 0)]))
 (.need (.cmp .leq (.lit 0) (.var 1)) (.need (.cmp .lss (.var 1) (.lit 4096)) (.need (.cmp .leq (.lit 0) (.var 1)) (.need (.cmp .lss (.var 1) (.len 2)) (.need (.cmp .leq (.lit 0) (.var 1)) (.need (.cmp .lss (.var 1) (.len 2)) (.need (.cmp .leq (.lit 0) (.var 1)) (.need (.cmp .lss (.var 1) (.len 2)) (.ext (.setl 2 (.var 1) (.nth 2 (.var 1))) (.ext (.mk 0 [.var 10, .ex (.var 3), .ex (.lit 1), .ex (.var 1), .ex (.nth 2 (.var 1)), .ex (.nth 2 (.var 1)), .bx (.lit false), .ex (.bin .add .i64 (.var 9) (.lit 1))]) (.ret [.var 11, .ex (.nth 2 (.var 1))]))))))))))))))
 (.nomore 0 [0]))
theorem rLoad : runCtr (cx Try.prog []) 20 cLoad [(0, [0])] [(0, [0, 1])] = tLoad := by kernel_rfl
def tStore : Tree := (.and (.opn 0 0 (.br (.cmp .lss (.var 1) (.lit 0))
 (.ext (.mk 0 [.var 3, .ex (.var 4), .ex (.lit 2), .ex (.var 1), .ex (.lit 0), .ex (.lit 0), .bx (.lit false), .ex (.bin .add .i64 (.var 10) (.lit 1))]) (.ret [.var 11]))
 (.br (.cmp .geq (.var 1) (.var 4))
 (.ext (.mk 0 [.var 3, .ex (.var 4), .ex (.lit 2), .ex (.var 1), .ex (.lit 0), .ex (.lit 0), .bx (.lit false), .ex (.bin .add .i64 (.var 10) (.lit 1))]) (.ret [.var 11]))
 (.need (.cmp .leq (.lit 0) (.var 1)) (.need (.cmp .lss (.var 1) (.lit 4096)) (.need (.cmp .leq (.lit 0) (.var 1)) (.need (.cmp .lss (.var 1) (.len 3)) (.need (.cmp .leq (.lit 0) (.var 1)) (.need (.cmp .lss (.var 1) (.len 3)) (.ext (.setl 3 (.var 1) (.var 2)) (.ext (.mk 0 [.var 11, .ex (.var 4), .ex (.lit 2), .ex (.var 1), .ex (.nth 3 (.var 1)), .ex (.var 2), .bx (.lit true), .ex (.bin .add .i64 (.var 10) (.lit 1))]) (.ret [.var 12]))))))))))))
 (.nomore 0 [0]))
theorem rStore : runCtr (cx Try.prog []) 20 cStore [(0, [0])] [(0, [0, 1])] = tStore := by kernel_rfl
def tCAS : Tree := (.and (.opn 0 0 (.br (.cmp .lss (.var 1) (.lit 0))
 (.ext (.mk 0 [.var 4, .ex (.var 5), .ex (.lit 3), .ex (.var 1), .ex (.lit 0), .ex (.lit 0), .bx (.lit false), .ex (.bin .add .i64 (.var 11) (.lit 1))]) (.ret [.var 12, .bx (.lit false)]))
 (.br (.cmp .geq (.var 1) (.var 5))
 (.ext (.mk 0 [.var 4, .ex (.var 5), .ex (.lit 3), .ex (.var 1), .ex (.lit 0), .ex (.lit 0), .bx (.lit false), .ex (.bin .add .i64 (.var 11) (.lit 1))]) (.ret [.var 12, .bx (.lit false)]))
 (.need (.cmp .leq (.lit 0) (.var 1)) (.need (.cmp .lss (.var 1) (.lit 4096)) (.need (.cmp .leq (.lit 0) (.var 1)) (.need (.cmp .lss (.var 1) (.len 4)) (.br (.cmp .eql (.nth 4 (.var 1)) (.var 2))
 (.need (.cmp .leq (.lit 0) (.var 1)) (.need (.cmp .lss (.var 1) (.len 4)) (.need (.cmp .leq (.lit 0) (.var 1)) (.need (.cmp .lss (.var 1) (.len 4)) (.ext (.setl 4 (.var 1) (.var 3)) (.ext (.mk 0 [.var 12, .ex (.var 5), .ex (.lit 3), .ex (.var 1), .ex (.nth 4 (.var 1)), .ex (.var 3), .bx (.lit true), .ex (.bin .add .i64 (.var 11) (.lit 1))]) (.ret [.var 13, .bx (.lit true)])))))))
 (.need (.cmp .leq (.lit 0) (.var 1)) (.need (.cmp .lss (.var 1) (.len 4)) (.need (.cmp .leq (.lit 0) (.var 1)) (.need (.cmp .lss (.var 1) (.len 4)) (.need (.cmp .leq (.lit 0) (.var 1)) (.need (.cmp .lss (.var 1) (.len 4)) (.ext (.setl 4 (.var 1) (.nth 4 (.var 1))) (.ext (.mk 0 [.var 12, .ex (.var 5), .ex (.lit 3), .ex (.var 1), .ex (.nth 4 (.var 1)), .ex (.nth 4 (.var 1)), .bx (.lit false), .ex (.bin .add .i64 (.var 11) (.lit 1))]) (.ret [.var 13, .bx (.lit false)])))))))))))))))))
 (.nomore 0 [0]))
theorem rCAS : runCtr (cx Try.prog []) 20 cCAS [(0, [0])] [(0, [0, 1])] = tCAS := by kernel_rfl
def tNew : Tree := (.br (.cmp .lss (.var 0) (.lit 1))
 (.ext (.mk 1 []) (.ret [.var 1, .ex (.lit 3)]))
 (.br (.cmp .gtr (.var 0) (.lit 4096))
 (.ext (.mk 1 []) (.ret [.var 1, .ex (.lit 3)]))
 (.ext (.repl (.lit 4096) (.lit 0)) (.ext (.mk 0 [.var 1, .ex (.var 0), .ex (.lit 0), .ex (.lit 0), .ex (.lit 0), .ex (.lit 0), .bx (.lit false), .ex (.lit 0)]) (.ret [.var 2, .ex (.lit 0)])))))
theorem rNew : runCtr (cx Try.prog []) 20 cNew [] [(0, [0, 1])] = tNew := by kernel_rfl
def tLast : Tree := (.and (.opn 0 0 (.ext (.mk 0 [.var 1, .ex (.var 2), .ex (.var 3), .ex (.var 4), .ex (.var 5), .ex (.var 6), .bx (.var 7), .ex (.var 8)]) (.ret [.var 9, .ex (.var 3), .ex (.var 4), .ex (.var 5), .ex (.var 6), .bx (.var 7)])))
 (.nomore 0 [0]))
theorem rLast : runCtr (cx Try.prog []) 20 cLast [(0, [0])] [(0, [0, 1])] = tLast := by kernel_rfl
section
variable {l : List Int} {s k a o n N at_ w : Int} {h held : Bool} {kind : Int}
theorem mem_is (h1 : l.length = 4096) (h2 : 0 ≤ s) (h3 : s ≤ 4096) : (MemSt.mk (l.take s.toNat) k a o n h N).is at_ = decide (0 ≤ at_ ∧ at_ < s) := by
 unfold MemSt.is
 have : (l.take s.toNat).length = s.toNat := by rw [List.length_take]; omega
 rw [this]
 congr 1
 apply propext
 omega
theorem mem_word (h1 : 0 ≤ at_) (h2 : at_ < s) : (MemSt.mk (l.take s.toNat) k a o n h N).word at_ = l[at_.toNat]?.getD 0 := by
 unfold MemSt.word
 rw [List.getD, List.getElem?_take, if_pos (by omega)]
theorem mem_in (h1 : l.length = 4096) (h3 : s ≤ 4096) (g1 : 0 ≤ at_) (g2 : at_ < s) :
 (MemSt.mk (l.take s.toNat) k a o n h N).acc kind at_ w held = ⟨(l.set at_.toNat w).take s.toNat, kind, at_, l[at_.toNat]?.getD 0, w, held, IntKind.i64.wrap (N + 1)⟩ := by
 unfold MemSt.acc
 rw [mem_is h1 (by omega) h3, if_pos (by simp; omega), mem_word g1 g2, List.take_set]
theorem mem_out (h1 : l.length = 4096) (h2 : 0 ≤ s) (h3 : s ≤ 4096) (g : at_ < 0 ∨ s ≤ at_) :
 (MemSt.mk (l.take s.toNat) k a o n h N).acc kind at_ w held = ⟨l.take s.toNat, kind, at_, 0, 0, false, IntKind.i64.wrap (N + 1)⟩ := by
 unfold MemSt.acc
 rw [mem_is h1 h2 h3, if_neg (by simp; omega)]
theorem memOk_mk (h1 : l.length = 4096) (h2 : 0 ≤ s) (h3 : s ≤ 4096) : memOk [.l l, .i s, .i k, .i a, .i o, .i n, .b h, .i N] := ⟨_, _, _, _, _, _, _, _, rfl, h1, h2, h3⟩
end
theorem nomore_mem {M : MemSt} : ∀ (t : Nat) (T : ObjT U) (ps : List (EV U)), objs[t]? = some T → t ∉ [0] → ps.length = T.nv → T.ok ps → some (EV.u (U.mem M)) ≠ some (EV.u (T.obj ps)) := by
 exact nomore_kind (by show ∀ t, t < 18 → t ∉ [0] → kinds.getD t 0 ≠ 1; decide)
set_option maxHeartbeats 1000000 in
theorem vLoad (P : Program) : ∀ ins, ins.length = cLoad.nin → cLoad.pre ins → tLoad.sat (cx P []) (ctrR cLoad) ins := by
 rintro ins _ ⟨M, at_, rfl⟩
 simp only [Tree.sat, Bx.den, Ex.den, Bnd.den, gI, gB, gL, gF, gN, gNil, List.map_cons, List.map_nil, List.cons_append, List.nil_append, List.getElem?_cons_zero, List.getElem?_cons_succ, List.getD, Option.getD_some, cmp_eql_t, cmp_eql_f, cmp_neq_t, cmp_neq_f, cmp_lss_t, cmp_lss_f, cmp_leq_t, cmp_leq_f, cmp_gtr_t, cmp_gtr_f, cmp_geq_t, cmp_geq_f, Bool.not_eq_true', Bool.not_eq_false', Bool.and_eq_true, Bool.and_eq_false_iff, binDen, ctrR, Ctr.may, List.take_succ_cons, List.take_zero, Option.some.injEq, EV.u.injEq, tLoad, cx, objs]
 refine ⟨?_, nomore_mem⟩
 rintro ps hl ⟨l, s, k, a, o, n, h, N, rfl, h1, h2, h3⟩ he
 injection he with he; subst he
 simp only [Tree.sat, Bx.den, Ex.den, Bnd.den, gI, gB, gL, gF, gN, gNil, List.map_cons, List.map_nil, List.cons_append, List.nil_append, List.getElem?_cons_zero, List.getElem?_cons_succ, List.getD, Option.getD_some, cmp_eql_t, cmp_eql_f, cmp_neq_t, cmp_neq_f, cmp_lss_t, cmp_lss_f, cmp_leq_t, cmp_leq_f, cmp_gtr_t, cmp_gtr_f, cmp_geq_t, cmp_geq_f, Bool.not_eq_true', Bool.not_eq_false', Bool.and_eq_true, Bool.and_eq_false_iff, binDen, ctrR, Ctr.may, List.take_succ_cons, List.take_zero, Option.some.injEq, EV.u.injEq, memT, memObj, cLoad, List.length_set]
 refine ⟨fun g => ⟨memOk_mk h1 h2 h3, ?_⟩, fun g => ⟨fun g2 => ⟨memOk_mk h1 h2 h3, ?_⟩, fun g2 => ⟨by omega, by omega, by omega, by omega, by omega, by omega, by omega, by omega, memOk_mk (by simpa using h1) h2 h3, ?_⟩⟩⟩
 · rw [MemSt.load, mem_out h1 h2 h3 (.inl g)]
 · rw [MemSt.load, mem_out h1 h2 h3 (.inr g2)]
 · rw [MemSt.load, mem_word (by omega) (by omega), mem_in h1 h3 (by omega) (by omega)]
set_option maxHeartbeats 1000000 in
theorem vStore (P : Program) : ∀ ins, ins.length = cStore.nin → cStore.pre ins → tStore.sat (cx P []) (ctrR cStore) ins := by
 rintro ins _ ⟨M, at_, x, rfl⟩
 simp only [Tree.sat, Bx.den, Ex.den, Bnd.den, gI, gB, gL, gF, gN, gNil, List.map_cons, List.map_nil, List.cons_append, List.nil_append, List.getElem?_cons_zero, List.getElem?_cons_succ, List.getD, Option.getD_some, cmp_eql_t, cmp_eql_f, cmp_neq_t, cmp_neq_f, cmp_lss_t, cmp_lss_f, cmp_leq_t, cmp_leq_f, cmp_gtr_t, cmp_gtr_f, cmp_geq_t, cmp_geq_f, Bool.not_eq_true', Bool.not_eq_false', Bool.and_eq_true, Bool.and_eq_false_iff, binDen, ctrR, Ctr.may, List.take_succ_cons, List.take_zero, Option.some.injEq, EV.u.injEq, tStore, cx, objs]
 refine ⟨?_, nomore_mem⟩
 rintro ps hl ⟨l, s, k, a, o, n, h, N, rfl, h1, h2, h3⟩ he
 injection he with he; subst he
 simp only [Tree.sat, Bx.den, Ex.den, Bnd.den, gI, gB, gL, gF, gN, gNil, List.map_cons, List.map_nil, List.cons_append, List.nil_append, List.getElem?_cons_zero, List.getElem?_cons_succ, List.getD, Option.getD_some, cmp_eql_t, cmp_eql_f, cmp_neq_t, cmp_neq_f, cmp_lss_t, cmp_lss_f, cmp_leq_t, cmp_leq_f, cmp_gtr_t, cmp_gtr_f, cmp_geq_t, cmp_geq_f, Bool.not_eq_true', Bool.not_eq_false', Bool.and_eq_true, Bool.and_eq_false_iff, binDen, ctrR, Ctr.may, List.take_succ_cons, List.take_zero, Option.some.injEq, EV.u.injEq, memT, memObj, cStore, List.length_set]
 refine ⟨fun g => ⟨memOk_mk h1 h2 h3, ?_⟩, fun g => ⟨fun g2 => ⟨memOk_mk h1 h2 h3, ?_⟩, fun g2 => ⟨by omega, by omega, by omega, by omega, by omega, by omega, memOk_mk (by simpa using h1) h2 h3, ?_⟩⟩⟩
 · rw [MemSt.store, mem_out h1 h2 h3 (.inl g)]
 · rw [MemSt.store, mem_out h1 h2 h3 (.inr g2)]
 · rw [MemSt.store, mem_in h1 h3 (by omega) (by omega)]
set_option maxHeartbeats 1000000 in
theorem vCAS (P : Program) : ∀ ins, ins.length = cCAS.nin → cCAS.pre ins → tCAS.sat (cx P []) (ctrR cCAS) ins := by
 rintro ins _ ⟨M, at_, x, y, rfl⟩
 simp only [Tree.sat, Bx.den, Ex.den, Bnd.den, gI, gB, gL, gF, gN, gNil, List.map_cons, List.map_nil, List.cons_append, List.nil_append, List.getElem?_cons_zero, List.getElem?_cons_succ, List.getD, Option.getD_some, cmp_eql_t, cmp_eql_f, cmp_neq_t, cmp_neq_f, cmp_lss_t, cmp_lss_f, cmp_leq_t, cmp_leq_f, cmp_gtr_t, cmp_gtr_f, cmp_geq_t, cmp_geq_f, Bool.not_eq_true', Bool.not_eq_false', Bool.and_eq_true, Bool.and_eq_false_iff, binDen, ctrR, Ctr.may, List.take_succ_cons, List.take_zero, Option.some.injEq, EV.u.injEq, tCAS, cx, objs]
 refine ⟨?_, nomore_mem⟩
 rintro ps hl ⟨l, s, k, a, o, n, h, N, rfl, h1, h2, h3⟩ he
 injection he with he; subst he
 simp only [Tree.sat, Bx.den, Ex.den, Bnd.den, gI, gB, gL, gF, gN, gNil, List.map_cons, List.map_nil, List.cons_append, List.nil_append, List.getElem?_cons_zero, List.getElem?_cons_succ, List.getD, Option.getD_some, cmp_eql_t, cmp_eql_f, cmp_neq_t, cmp_neq_f, cmp_lss_t, cmp_lss_f, cmp_leq_t, cmp_leq_f, cmp_gtr_t, cmp_gtr_f, cmp_geq_t, cmp_geq_f, Bool.not_eq_true', Bool.not_eq_false', Bool.and_eq_true, Bool.and_eq_false_iff, binDen, ctrR, Ctr.may, List.take_succ_cons, List.take_zero, Option.some.injEq, EV.u.injEq, memT, memObj, cCAS, List.length_set]
 have hout : at_ < 0 ∨ s ≤ at_ → (MemSt.mk (l.take s.toNat) k a o n h N).cas at_ x y = ⟨l.take s.toNat, 3, at_, 0, 0, false, IntKind.i64.wrap (N + 1)⟩ := fun g => by
  unfold MemSt.cas
  split <;> exact mem_out h1 h2 h3 g
 refine ⟨fun g => ⟨memOk_mk h1 h2 h3, ?_⟩, fun g => ⟨fun g2 => ⟨memOk_mk h1 h2 h3, ?_⟩, fun g2 => ⟨by omega, by omega, by omega, by omega, fun g3 => ⟨by omega, by omega, by omega, by omega, memOk_mk (by simpa using h1) h2 h3, ?_⟩, fun g3 => ⟨by omega, by omega, by omega, by omega, by omega, by omega, memOk_mk (by simpa using h1) h2 h3, ?_⟩⟩⟩⟩
 · rw [hout (.inl g)]
 · rw [hout (.inr g2)]
 · rw [MemSt.cas, mem_word (by omega) (by omega), if_pos g3, mem_in h1 h3 (by omega) (by omega)]
 · rw [MemSt.cas, mem_word (by omega) (by omega), if_neg g3, mem_in h1 h3 (by omega) (by omega)]
set_option maxHeartbeats 1000000 in
theorem vNew (P : Program) : ∀ ins, ins.length = cNew.nin → cNew.pre ins → tNew.sat (cx P []) (ctrR cNew) ins := by
 rintro ins _ ⟨n, rfl⟩
 unfold tNew
 simp only [Tree.sat, Bx.den, Ex.den, Bnd.den, gI, gB, gL, gF, gN, gNil, List.map_cons, List.map_nil, List.cons_append, List.nil_append, List.getElem?_cons_zero, List.getElem?_cons_succ, List.getD, Option.getD_some, cmp_eql_t, cmp_eql_f, cmp_neq_t, cmp_neq_f, cmp_lss_t, cmp_lss_f, cmp_leq_t, cmp_leq_f, cmp_gtr_t, cmp_gtr_f, cmp_geq_t, cmp_geq_f, Bool.not_eq_true', Bool.not_eq_false', Bool.and_eq_true, Bool.and_eq_false_iff, binDen, ctrR, Ctr.may, List.take_succ_cons, List.take_zero, Option.some.injEq, EV.u.injEq, memT, memNilT, memObj, cNew, cx, objs, List.length_set]
 refine ⟨fun g => ⟨trivial, ?_⟩, fun g => ⟨fun g2 => ⟨trivial, ?_⟩, fun g2 => ⟨memOk_mk (by rw [List.length_replicate]; rfl) (by omega) (by omega), ?_⟩⟩⟩
 · rw [if_neg (by omega)]
 · rw [if_neg (by omega)]
 · rw [if_pos (by omega), MemSt.new]
   have : (List.replicate (Int.toNat 4096) (0 : Int)).take n.toNat = List.replicate n.toNat 0 := by
    rw [List.take_replicate]
    congr 1
    omega
   rw [this]
set_option maxHeartbeats 1000000 in
theorem vLast (P : Program) : ∀ ins, ins.length = cLast.nin → cLast.pre ins → tLast.sat (cx P []) (ctrR cLast) ins := by
 rintro ins _ ⟨M, rfl⟩
 simp only [Tree.sat, Bx.den, Ex.den, Bnd.den, gI, gB, gL, gF, gN, gNil, List.map_cons, List.map_nil, List.cons_append, List.nil_append, List.getElem?_cons_zero, List.getElem?_cons_succ, List.getD, Option.getD_some, cmp_eql_t, cmp_eql_f, cmp_neq_t, cmp_neq_f, cmp_lss_t, cmp_lss_f, cmp_leq_t, cmp_leq_f, cmp_gtr_t, cmp_gtr_f, cmp_geq_t, cmp_geq_f, Bool.not_eq_true', Bool.not_eq_false', Bool.and_eq_true, Bool.and_eq_false_iff, binDen, ctrR, Ctr.may, List.take_succ_cons, List.take_zero, Option.some.injEq, EV.u.injEq, tLast, cx, objs]
 refine ⟨?_, nomore_mem⟩
 rintro ps hl ⟨l, s, k, a, o, n, h, N, rfl, h1, h2, h3⟩ he
 injection he with he; subst he
 simp only [Tree.sat, Bx.den, Ex.den, Bnd.den, gI, gB, gL, gF, gN, gNil, List.map_cons, List.map_nil, List.cons_append, List.nil_append, List.getElem?_cons_zero, List.getElem?_cons_succ, List.getD, Option.getD_some, cmp_eql_t, cmp_eql_f, cmp_neq_t, cmp_neq_f, cmp_lss_t, cmp_lss_f, cmp_leq_t, cmp_leq_f, cmp_gtr_t, cmp_gtr_f, cmp_geq_t, cmp_geq_f, Bool.not_eq_true', Bool.not_eq_false', Bool.and_eq_true, Bool.and_eq_false_iff, binDen, ctrR, Ctr.may, List.take_succ_cons, List.take_zero, Option.some.injEq, EV.u.injEq, memT, memObj, cLast]
 exact ⟨memOk_mk h1 h2 h3, trivial⟩
theorem noCts {p : Ctr U → Prop} : ∀ (ci : Nat) (c : Ctr U), ([] : List (Ctr U))[ci]? = some c → p c := by
 intro ci c h; simp at h
theorem callable (P : Program) {g : FuncId} {fn : Func} (h : P.funcs[g]? = some fn) (hb : fn.body.isSome = true) (hn : (fn.name == "runtime.NumGoroutine") = false) : Callable P g := by
 cases hb' : fn.body with
 | none => simp [hb'] at hb
 | some c => exact ⟨fn, c, h, hb', hn⟩
theorem hLoad : cLoad.Holds objs Try.prog := runCtr_holds (X := cx Try.prog []) objsOk mixed noCts (callable _ Try.func79 (by kernel_rfl) (by kernel_rfl)) (by rintro ins _ ⟨M, at_, rfl⟩; rfl) (by rw [rLoad]; exact vLoad _)
theorem hStore : cStore.Holds objs Try.prog := runCtr_holds (X := cx Try.prog []) objsOk mixed noCts (callable _ Try.func43 (by kernel_rfl) (by kernel_rfl)) (by rintro ins _ ⟨M, at_, x, rfl⟩; rfl) (by rw [rStore]; exact vStore _)
theorem hCAS : cCAS.Holds objs Try.prog := runCtr_holds (X := cx Try.prog []) objsOk mixed noCts (callable _ Try.func81 (by kernel_rfl) (by kernel_rfl)) (by rintro ins _ ⟨M, at_, x, y, rfl⟩; rfl) (by rw [rCAS]; exact vCAS _)
theorem hNew : cNew.Holds objs Try.prog := runCtr_holds (X := cx Try.prog []) objsOk mixed noCts (callable _ Try.func19 (by kernel_rfl) (by kernel_rfl)) (by rintro ins _ ⟨n, rfl⟩; dsimp only [cNew]; split <;> rfl) (by rw [rNew]; exact vNew _)
theorem hLast : cLast.Holds objs Try.prog := runCtr_holds (X := cx Try.prog []) objsOk mixed noCts (callable _ Try.func90 (by kernel_rfl) (by kernel_rfl)) (by rintro ins _ ⟨M, rfl⟩; rfl) (by rw [rLast]; exact vLast _)
def cWords : Ctr U :=
 { fn := 59, nin := 1, args := [.hnd 0], heap := [.abs 0]
   pre := fun ins => ∃ M, ins = [.u (.mem M)], nout := 3
   out := fun ins => match ins with | [.u (.mem M)] => [.u (.mem M), .l M.W, .i M.W.length] | _ => []
   ret := .slice 1 (.var 3) (.var 3), post := [.abs 1, .row .u64 42 2] }
def lWords : LoopS U :=
 { fn := 59, rid := 5, nv := 2, tm := [(31, .int .i64 (.var 10))], hp := [(2, .row .u64 42 11)], reb := []
   inv := fun env => ∃ k xs, env.drop 10 = [.i k, .l xs] ∧ 0 ≤ k ∧ k ≤ gI env 2 ∧ xs = (gL env 1).take k.toNat ++ List.replicate (gI env 2 - k).toNat 0
   mu := fun env => (gI env 2 - gI env 10).toNat }
def lSameWords : LoopS U :=
 { fn := 31, rid := 3, nv := 2, tm := [(5, .bool (.var 7)), (6, .int .i64 (.var 6))], hp := [], reb := []
   inv := fun env => ∃ k b, env.drop 6 = [.i k, .b b] ∧ 0 ≤ k ∧ k ≤ gI env 2 ∧ (b = true → gI env 2 = gI env 4 ∧ (gL env 0).take k.toNat = (gL env 1).take k.toNat) ∧ (b = false → (gL env 0).take (gI env 2).toNat ≠ (gL env 1).take (gI env 4).toNat)
   mu := fun env => (gI env 2 - gI env 6).toNat + if gB env 7 then 1 else 0 }
def cPick : Ctr U :=
 { fn := 25, nin := 2, args := [.int .i64 (.var 0), .int .i64 (.var 1)], heap := []
   pre := fun ins => ∃ x n, ins = [.i x, .i n] ∧ 0 < n ∧ n < 2 ^ 62, nout := 1
   out := fun ins => match ins with | [.i x, .i n] => [.i (x.emod n)] | _ => []
   ret := .int .i64 (.var 2), post := [] }
def cxW (P : Program) : Cx U := { cx P [] with loops := [lWords, lSameWords] }
def tWords : Tree := (.and (.opn 0 0 (.need (.cmp .leq (.lit 0) (.var 2)) (.need (.cmp .leq (.var 2) (.lit 1000000)) (.ext (.repl (.var 2) (.lit 0)) (.need (.cmp .leq (.lit 0) (.var 2)) (.need (.cmp .leq (.var 2) (.lit 4096)) (.need (.cmp .lss (.lit 0) (.len 1)) (.need (.cmp .leq (.lit 0) (.var 2)) (.loop 0 10 [.ex (.lit 0), .var 9] (.br (.cmp .lss (.var 10) (.var 2))
 (.need (.cmp .leq (.lit 0) (.var 10)) (.need (.cmp .lss (.var 10) (.var 2)) (.need (.cmp .lss (.var 10) (.len 1)) (.need (.cmp .leq (.lit 0) (.var 10)) (.need (.cmp .lss (.var 10) (.len 1)) (.need (.cmp .leq (.lit 0) (.var 10)) (.need (.cmp .lss (.var 10) (.var 2)) (.need (.cmp .lss (.var 10) (.len 11)) (.need (.cmp .leq (.lit 0) (.var 10)) (.need (.cmp .lss (.var 10) (.len 11)) (.ext (.setl 11 (.var 10) (.nth 1 (.var 10))) (.back 0 10 [.ex (.bin .add .i64 (.var 10) (.lit 1)), .var 12]))))))))))))
 (.ext (.mk 0 [.var 1, .ex (.var 2), .ex (.var 3), .ex (.var 4), .ex (.var 5), .ex (.var 6), .bx (.var 7), .ex (.var 8)]) (.ret [.var 12, .var 11, .ex (.var 2)]))))))))))))
 (.nomore 0 [0]))
theorem rWords : runCtr (cxW Try.prog) 20 cWords [(0, [0])] [(0, [0])] = tWords := by kernel_rfl
def tPick : Tree := (.br (.cmp .leq (.var 1) (.lit 0))
 (.ret [.ex (.lit 0)])
 (.need (.cmp .neq (.var 1) (.lit 0)) (.br (.cmp .lss (.bin .rem .i64 (.var 0) (.var 1)) (.lit 0))
 (.ret [.ex (.bin .add .i64 (.bin .rem .i64 (.var 0) (.var 1)) (.var 1))])
 (.ret [.ex (.bin .rem .i64 (.var 0) (.var 1))]))))
theorem rPick : runCtr (cxW Try.prog) 20 cPick [] [] = tPick := by kernel_rfl
theorem wrap_small {n : Int} (h1 : -(2:Int) ^ 62 ≤ n) (h2 : n < 2 ^ 62) : IntKind.i64.wrap n = n := by
 rw [IntKind.wrap_i64]; omega
theorem cmpDen_eql (x y : Int) : cmpDen .eql x y = decide (x = y) := by unfold cmpDen; exact Bool.beq_eq_decide_eq x y
theorem fill_step {l : List Int} {k n : Nat} (h1 : k < n) (h2 : n ≤ l.length) : (l.take k ++ List.replicate (n - k) 0).set k (l[k]?.getD 0) = l.take (k + 1) ++ List.replicate (n - (k + 1)) 0 := by
 rw [List.set_append_right _ _ (by simp; omega)]
 have e : n - k = (n - (k + 1)) + 1 := by omega
 have e2 : k - (l.take k).length = 0 := by simp; omega
 rw [e, List.replicate_succ, e2, List.set_cons_zero, List.getElem?_eq_getElem (by omega), List.take_add_one, List.append_assoc]
 simp [List.getElem?_eq_getElem (show k < l.length by omega)]
set_option maxHeartbeats 1000000 in
theorem vWords (P : Program) : ∀ ins, ins.length = cWords.nin → cWords.pre ins → tWords.sat (cxW P) (ctrR cWords) ins := by
 rintro ins _ ⟨M, rfl⟩
 simp only [Tree.sat, Bx.den, Ex.den, Bnd.den, gI, gB, gL, gF, gN, gNil, List.map_cons, List.map_nil, List.cons_append, List.nil_append, List.getElem?_cons_zero, List.getElem?_cons_succ, List.getD, Option.getD_some, cmp_eql_t, cmp_eql_f, cmp_neq_t, cmp_neq_f, cmp_lss_t, cmp_lss_f, cmp_leq_t, cmp_leq_f, cmp_gtr_t, cmp_gtr_f, cmp_geq_t, cmp_geq_f, Bool.not_eq_true', Bool.not_eq_false', Bool.and_eq_true, Bool.and_eq_false_iff, binDen, ctrR, Ctr.may, List.take_succ_cons, List.take_zero, Option.some.injEq, EV.u.injEq, tWords, cxW, cx, objs]
 refine ⟨?_, nomore_mem⟩
 rintro ps hl ⟨l, s, k, a, o, n, h, N, rfl, h1, h2, h3⟩ he
 injection he with he; subst he
 simp only [Tree.sat, Bx.den, Ex.den, Bnd.den, gI, gB, gL, gF, gN, gNil, List.map_cons, List.map_nil, List.cons_append, List.nil_append, List.getElem?_cons_zero, List.getElem?_cons_succ, List.getD, Option.getD_some, cmp_eql_t, cmp_eql_f, cmp_neq_t, cmp_neq_f, cmp_lss_t, cmp_lss_f, cmp_leq_t, cmp_leq_f, cmp_gtr_t, cmp_gtr_f, cmp_geq_t, cmp_geq_f, Bool.not_eq_true', Bool.not_eq_false', Bool.and_eq_true, Bool.and_eq_false_iff, binDen, ctrR, Ctr.may, List.take_succ_cons, List.take_zero, Option.some.injEq, EV.u.injEq, memT, memObj, cWords, lWords]
 repeat (refine ⟨by omega, ?_⟩)
 refine ⟨⟨0, _, rfl, by omega, by omega, by simp⟩, ?_⟩
 rintro fr hfr ⟨k', xs, hk, h4, h5, h6⟩
 simp only [List.drop_succ_cons, List.drop_zero] at hk
 subst hk
 have hxl : (xs.length : Int) = s := by rw [h6]; simp; omega
 simp only [Tree.sat, Bx.den, Ex.den, Bnd.den, gI, gB, gL, gF, gN, gNil, List.map_cons, List.map_nil, List.cons_append, List.nil_append, List.getElem?_cons_zero, List.getElem?_cons_succ, List.getD, Option.getD_some, cmp_eql_t, cmp_eql_f, cmp_neq_t, cmp_neq_f, cmp_lss_t, cmp_lss_f, cmp_leq_t, cmp_leq_f, cmp_gtr_t, cmp_gtr_f, cmp_geq_t, cmp_geq_f, Bool.not_eq_true', Bool.not_eq_false', Bool.and_eq_true, Bool.and_eq_false_iff, binDen, ctrR, Ctr.may, List.take_succ_cons, List.take_zero, Option.some.injEq, EV.u.injEq, memT, memObj, cWords, lWords]
 refine ⟨fun g => ?_, fun g => ⟨memOk_mk h1 h2 h3, ?_⟩⟩
 · repeat (refine ⟨by omega, ?_⟩)
   refine ⟨?_, ?_⟩
   · rw [wrap_small (by omega) (by omega)]
     refine ⟨k' + 1, _, rfl, by omega, by omega, ?_⟩
     rw [h6, show (s - k').toNat = s.toNat - k'.toNat by omega, fill_step (by omega) (by omega)]
     congr 2 <;> omega
   · rw [wrap_small (by omega) (by omega)]
     omega
 · obtain rfl : k' = s := by omega
   simp [h6]
   omega
theorem take_eq_step {xs ys : List Int} {k : Nat} (h : xs.take k = ys.take k) (h1 : k < xs.length) (h2 : k < ys.length) : xs.take (k + 1) = ys.take (k + 1) ↔ xs[k]?.getD 0 = ys[k]?.getD 0 := by
 rw [List.take_succ_eq_append_getElem h1, List.take_succ_eq_append_getElem h2, h, List.getElem?_eq_getElem h1, List.getElem?_eq_getElem h2, List.append_right_inj]
 simp
set_option maxHeartbeats 1000000 in
theorem tmod_cases (x n : Int) (h : 0 < n) : -n < x.tmod n ∧ x.tmod n < n ∧ (x.tmod n < 0 → x.tmod n + n = x.emod n) ∧ (0 ≤ x.tmod n → x.tmod n = x.emod n) := by
 have h1 := Int.tmod_eq_emod (a := x) (b := n)
 have h2 := Int.emod_nonneg x (Int.ne_of_gt h)
 have h3 := Int.emod_lt_of_pos x h
 have h5 : x.emod n = x % n := rfl
 rw [h5]
 split at h1
 · exact ⟨by omega, by omega, by omega, by omega⟩
 · rename_i hc
   have h4 : x % n ≠ 0 := fun e => hc (.inr (Int.dvd_of_emod_eq_zero e))
   exact ⟨by omega, by omega, by omega, by omega⟩
set_option maxHeartbeats 1000000 in
theorem vPick (P : Program) : ∀ ins, ins.length = cPick.nin → cPick.pre ins → tPick.sat (cxW P) (ctrR cPick) ins := by
 rintro ins _ ⟨x, n, rfl, h1, h2⟩
 simp only [Tree.sat, Bx.den, Ex.den, Bnd.den, gI, gB, gL, gF, gN, gNil, List.map_cons, List.map_nil, List.cons_append, List.nil_append, List.getElem?_cons_zero, List.getElem?_cons_succ, List.getD, Option.getD_some, cmp_eql_t, cmp_eql_f, cmp_neq_t, cmp_neq_f, cmp_lss_t, cmp_lss_f, cmp_leq_t, cmp_leq_f, cmp_gtr_t, cmp_gtr_f, cmp_geq_t, cmp_geq_f, Bool.not_eq_true', Bool.not_eq_false', Bool.and_eq_true, Bool.and_eq_false_iff, binDen, ctrR, Ctr.may, List.take_succ_cons, List.take_zero, Option.some.injEq, EV.u.injEq, tPick, cxW, cx, objs, cPick]
 obtain ⟨h3, h4, h5, h6⟩ := tmod_cases x n h1
 refine ⟨fun g => by omega, fun g => ⟨by omega, fun g2 => ?_, fun g2 => ?_⟩⟩
 · rw [wrap_small (by omega) (by omega), h5 g2]
 · rw [h6 g2]
theorem hWords : cWords.Holds objs Try.prog := runCtr_holds (X := cxW Try.prog) objsOk mixed noCts (callable _ Try.func59 (by kernel_rfl) (by kernel_rfl)) (by rintro ins _ ⟨M, rfl⟩; rfl) (by rw [rWords]; exact vWords _)
theorem hPick : cPick.Holds objs Try.prog := runCtr_holds (X := cxW Try.prog) objsOk mixed noCts (callable _ Try.func25 (by kernel_rfl) (by kernel_rfl)) (by rintro ins _ ⟨x, n, rfl, _⟩; rfl) (by rw [rPick]; exact vPick _)
end Go.Proofs.Ytbmbiiiacajolaa
