/- Texts of this proof. -/
import Derived.Test.YtdldcofddfkkbaaGreatSrO
import Derived.Test.YtdldcofddfkkbaaGreatProg
import Derived.KernelRfl
namespace Go.Proofs.YtdldcofddfkkbaaGreat
set_option linter.unusedVariables false
set_option linter.unusedSimpArgs false
set_option linter.unusedSectionVars false
open Go
theorem cmp_eql_t (x y : Int) : (cmpDen .eql x y = true) = (x = y) := by simp [cmpDen]
theorem cmp_eql_f (x y : Int) : (cmpDen .eql x y = false) = (x ≠ y) := by simp [cmpDen]
theorem cmp_neq_t (x y : Int) : (cmpDen .neq x y = true) = (x ≠ y) := by simp [cmpDen]
theorem cmp_neq_f (x y : Int) : (cmpDen .neq x y = false) = (x = y) := by simp [cmpDen]
theorem cmp_lss_t (x y : Int) : (cmpDen .lss x y = true) = (x < y) := by simp [cmpDen]
theorem cmp_lss_f (x y : Int) : (cmpDen .lss x y = false) = (y ≤ x) := by simp [cmpDen]
theorem cmp_leq_t (x y : Int) : (cmpDen .leq x y = true) = (x ≤ y) := by simp [cmpDen]
theorem cmp_leq_f (x y : Int) : (cmpDen .leq x y = false) = (y < x) := by simp [cmpDen]
theorem cmp_gtr_t (x y : Int) : (cmpDen .gtr x y = true) = (y < x) := by simp [cmpDen]
theorem cmp_gtr_f (x y : Int) : (cmpDen .gtr x y = false) = (x ≤ y) := by simp [cmpDen]
theorem cmp_geq_t (x y : Int) : (cmpDen .geq x y = true) = (y ≤ x) := by simp [cmpDen]
theorem cmp_geq_f (x y : Int) : (cmpDen .geq x y = false) = (x < y) := by simp [cmpDen]
structure MemSt where
 W : List Int
 k : Int
 a : Int
 o : Int
 n : Int
 h : Bool
 N : Int
namespace MemSt
def is (M : MemSt) (at_ : Int) : Bool := decide (0 ≤ at_ ∧ at_ < M.W.length)
def word (M : MemSt) (at_ : Int) : Int := M.W.getD at_.toNat 0
def acc (M : MemSt) (kind at_ w : Int) (held : Bool) : MemSt :=
 if M.is at_ then ⟨M.W.set at_.toNat w, kind, at_, M.word at_, w, held, IntKind.i64.wrap (M.N + 1)⟩
 else ⟨M.W, kind, at_, 0, 0, false, IntKind.i64.wrap (M.N + 1)⟩
def load (M : MemSt) (at_ : Int) : MemSt := M.acc 1 at_ (M.word at_) false
def store (M : MemSt) (at_ w : Int) : MemSt := M.acc 2 at_ w true
def cas (M : MemSt) (at_ x y : Int) : MemSt := if M.word at_ = x then M.acc 3 at_ y true else M.acc 3 at_ (M.word at_) false
def add (M : MemSt) (at_ x : Int) : MemSt := M.acc 4 at_ (IntKind.u64.wrap (M.word at_ + x)) true
def new (n : Int) : MemSt := ⟨List.replicate n.toNat 0, 0, 0, 0, 0, false, 0⟩
end MemSt
structure FindSt where
 t : List Int
 key : Int
 line : Int
 l : Int
 pred : Int
 ref : Int
 cur : Int
 w : Int
 P : List Int
 S : List Int
 K : List Int
 r : Int
def FindSt.norm (F : FindSt) : FindSt :=
 ⟨F.t, F.key, F.line, if F.line = 9 then 0 else F.l, if F.line = 9 then 0 else F.pred, if F.line = 9 then 0 else F.ref, if F.line = 9 ∨ F.line = 1 then 0 else F.cur, if F.line = 3 ∨ F.line = 4 then F.w else 0, F.P, F.S, F.K, F.r⟩
def FindSt.shape (F : FindSt) (h : Int) : Prop := (F.P.length : Int) = h ∧ (F.S.length : Int) = h ∧ (F.K.length : Int) = h
structure RetSt where
 l : List Int
 i : Int
 line : Int
 st : Int
 pl : Int
 w : Int
 err : Int
structure InsSt where
 t : List Int
 ref : Int
 key : Int
 i : Int
 high : Int
 line : Int
 lv : Int
 w : Int
 F : FindSt
 R : RetSt
 r : Int
 is : Bool
 err : Int
def F0 : FindSt := ⟨[], 0, 0, 0, 0, 0, 0, 0, [], [], [], 0⟩
def R0 : RetSt := ⟨[], 0, 0, 0, 0, 0, 0⟩
def idxW (size w : Int) : Int := if w % 65536 - 1 ≥ size then -1 else w % 65536 - 1
def okI (n h w s i high : Int) : Prop := (1 ≤ w ∧ w ≤ 4 ∧ 1 ≤ s ∧ s ≤ 128 ∧ 0 ≤ n ∧ n < 4096 ∧ 0 ≤ h ∧ h < 4096) ∧ 0 ≤ i ∧ i < s ∧ 1 ≤ high ∧ high ≤ w
inductive U where
 | bad
 | mem (M : MemSt)
 | memNil
 | memZero
 | rmem (M : MemSt)
 | rmemNil
 | find (F : FindSt)
 | findNil
 | rfind (F : FindSt)
 | rfindNil
 | ret (R : RetSt)
 | retNil
 | rret (R : RetSt)
 | rretNil
 | ins (I : InsSt)
 | insNil
 | rins (I : InsSt)
 | rinsNil
instance : Nil U := ⟨fun s => match s with | .memNil | .rmemNil | .findNil | .rfindNil | .retNil | .rretNil | .insNil | .rinsNil => true | _ => false⟩
def vI : Option (EV U) → Int | some (.i n) => n | _ => 0
def vB : Option (EV U) → Bool | some (.b x) => x | _ => false
def vL : Option (EV U) → List Int | some (.l x) => x | _ => []
def vF : Option (EV U) → Nat → Nat → Int | some (.f g _) => g | _ => fun _ _ => 0
def vN : Option (EV U) → Nat | some (.f _ n) => n | _ => 0
def vU : Option (EV U) → Bool | some (.u s) => Nil.isNil s | _ => false
theorem dn : (∀ (α β : Type) (f : α → β) (a : α) (l : List α), (a :: l).map f = f a :: l.map f) ∧ (∀ (α β : Type) (f : α → β), ([] : List α).map f = []) ∧ (∀ (α : Type) (a : α) (l m : List α), a :: l ++ m = a :: (l ++ m)) ∧ (∀ (α : Type) (l : List α), [] ++ l = l) ∧ (∀ (α : Type) (a : α) (l : List α), (a :: l)[0]? = some a) ∧ (∀ (α : Type) (a : α) (l : List α) (i : Nat), (a :: l)[i + 1]? = l[i]?) ∧ (∀ (α : Type) (a b : α), (some a).getD b = a) ∧ (∀ x y : Int, (cmpDen .eql x y = true) = (x = y)) ∧ (∀ x y : Int, (cmpDen .eql x y = false) = (x ≠ y)) ∧ (∀ x y : Int, (cmpDen .neq x y = true) = (x ≠ y)) ∧ (∀ x y : Int, (cmpDen .neq x y = false) = (x = y)) ∧ (∀ x y : Int, (cmpDen .lss x y = true) = (x < y)) ∧ (∀ x y : Int, (cmpDen .lss x y = false) = (y ≤ x)) ∧ (∀ x y : Int, (cmpDen .leq x y = true) = (x ≤ y)) ∧ (∀ x y : Int, (cmpDen .leq x y = false) = (y < x)) ∧ (∀ x y : Int, (cmpDen .gtr x y = true) = (y < x)) ∧ (∀ x y : Int, (cmpDen .gtr x y = false) = (x ≤ y)) ∧ (∀ x y : Int, (cmpDen .geq x y = true) = (y ≤ x)) ∧ (∀ x y : Int, (cmpDen .geq x y = false) = (x < y)) ∧ (∀ b : Bool, ((!b) = true) = (b = false)) ∧ (∀ b : Bool, ((!b) = false) = (b = true)) ∧ (∀ a b : Bool, ((a && b) = true) = (a = true ∧ b = true)) ∧ (∀ a b : Bool, ((a && b) = false) = (a = false ∨ b = false)) ∧ (∀ (α : Type) (a b : α), (some a = some b) = (a = b)) ∧ (∀ p : Prop, (p ∧ p) = p) ∧ (∀ p : Prop, (True ∧ p) = p) ∧ (∀ p : Prop, (p ∧ True) = p) ∧ (∀ p : Prop, (p ∨ False) = p) ∧ (∀ p : Prop, (False ∨ p) = p) ∧ (∀ p : Prop, (p ∨ p) = p) ∧ (∀ (V : Type) (a b : V), (EV.u a = EV.u b) = (a = b)) ∧ ((¬ True) = False) ∧ ((¬ False) = True) ∧ ((true = false) = False) ∧ ((false = true) = False) ∧ (∀ (α : Type) (a b : α), (a ≠ b) = ¬ a = b) ∧ (∀ a : Int, (a == a) = true) ∧ (∀ a : Bool, (a == a) = true) ∧ (∀ (e : List (EV U)) (n : Int), Ex.den e (.lit n) = n) ∧ (∀ (e : List (EV U)) (i : Nat), Ex.den e (.var i) = gI e i) ∧ (∀ (e : List (EV U)) (o : BinOp) (k : IntKind) (a b : Ex), Ex.den e (.bin o k a b) = binDen o k (a.den e) (b.den e)) ∧ (∀ (e : List (EV U)) (k : IntKind) (a : Ex), Ex.den e (.conv k a) = k.wrap (a.den e)) ∧ (∀ (e : List (EV U)) (i : Nat), Ex.den e (.len i) = ((gL e i).length : Int)) ∧ (∀ (e : List (EV U)) (i : Nat) (a : Ex), Ex.den e (.nth i a) = (gL e i).getD (a.den e).toNat 0) ∧ (∀ (e : List (EV U)) (i : Nat) (a : Ex) (c : Nat), Ex.den e (.fld i a c) = gF e i (a.den e).toNat c) ∧ (∀ (e : List (EV U)) (i : Nat), Ex.den e (.nrow i) = (gN e i : Int)) ∧ (∀ (e : List (EV U)) (b : Bool), Bx.den e (.lit b) = b) ∧ (∀ (e : List (EV U)) (i : Nat), Bx.den e (.var i) = gB e i) ∧ (∀ (e : List (EV U)) (o : BinOp) (a b : Ex), Bx.den e (.cmp o a b) = cmpDen o (a.den e) (b.den e)) ∧ (∀ (e : List (EV U)) (a b : Bx), Bx.den e (.beq a b) = (a.den e == b.den e)) ∧ (∀ (e : List (EV U)) (a : Bx), Bx.den e (.not a) = (!a.den e)) ∧ (∀ (e : List (EV U)) (a b : Bx), Bx.den e (.and a b) = (a.den e && b.den e)) ∧ (∀ (e : List (EV U)) (i : Nat), Bx.den e (.isnil i) = gNil e i) ∧ (∀ (e : List (EV U)) (i : Nat) (a : Ex) (c : Nat), Bx.den e (.fld i a c) = (gF e i (a.den e).toNat c != 0)) ∧ (∀ (e : List (EV U)) (i : Nat) (a : Ex), Bx.den e (.mem i a) = decide (a.den e ∈ gL e i)) ∧ (∀ (e : List (EV U)) (a : Ex), Bnd.den e (.ex a) = .i (a.den e)) ∧ (∀ (e : List (EV U)) (b : Bx), Bnd.den e (.bx b) = .b (b.den e)) ∧ (∀ (e : List (EV U)) (i : Nat), Bnd.den e (.var i) = e.getD i (.i 0)) ∧ (∀ (e : List (EV U)) (i : Nat), gI e i = vI e[i]?) ∧ (∀ (n : Int), vI (some (.i n)) = n) ∧ (∀ (e : List (EV U)) (i : Nat), gB e i = vB e[i]?) ∧ (∀ (x : Bool), vB (some (.b x)) = x) ∧ (∀ (e : List (EV U)) (i : Nat), gL e i = vL e[i]?) ∧ (∀ (x : List Int), vL (some (.l x)) = x) ∧ (∀ (e : List (EV U)) (i : Nat), gF e i = vF e[i]?) ∧ (∀ (g : Nat → Nat → Int) (n : Nat), vF (some (.f g n)) = g) ∧ (∀ (e : List (EV U)) (i : Nat), gN e i = vN e[i]?) ∧ (∀ (g : Nat → Nat → Int) (n : Nat), vN (some (.f g n)) = n) ∧ (∀ (e : List (EV U)) (i : Nat), gNil e i = vU e[i]?) ∧ (∀ (s : U), vU (some (.u s)) = Nil.isNil s) ∧ (∀ s : U, Nil.isNil s = match s with | .memNil | .rmemNil | .findNil | .rfindNil | .retNil | .rretNil | .insNil | .rinsNil => true | _ => false) ∧ (∀ (α : Type) (l : List α) (i : Nat) (d : α), l.getD i d = l[i]?.getD d) ∧ (∀ (α : Type) (n : Nat) (a : α) (l : List α), (a :: l).take (n + 1) = a :: l.take n) ∧ (∀ (α : Type) (l : List α), l.take 0 = []) ∧ (∀ (k : IntKind) (x y : Int), binDen .add k x y = k.wrap (x + y)) ∧ (∀ (k : IntKind) (x y : Int), binDen .sub k x y = k.wrap (x - y)) ∧ (∀ (k : IntKind) (x y : Int), binDen .mul k x y = k.wrap (x * y)) ∧ (∀ (k : IntKind) (x y : Int), binDen .quo k x y = k.wrap (x.tdiv y)) ∧ (∀ (k : IntKind) (x y : Int), binDen .rem k x y = x.tmod y) ∧ (∀ (k : IntKind) (x y : Int), binDen .and k x y = bits .and k x y) ∧ (∀ (k : IntKind) (x y : Int), binDen .or k x y = bits .or k x y) ∧ (∀ (k : IntKind) (x y : Int), binDen .xor k x y = bits .xor k x y) ∧ (∀ (k : IntKind) (x y : Int), binDen .andNot k x y = bits .andNot k x y) ∧ (∀ (k : IntKind) (x y : Int), binDen .shl k x y = k.wrap (x * 2 ^ min y.toNat k.bits)) ∧ (∀ (k : IntKind) (x y : Int), binDen .shr k x y = x.fdiv (2 ^ min y.toNat k.bits)) :=
 ⟨fun _ _ _ _ _ => rfl, fun _ _ _ => rfl, fun _ _ _ _ => rfl, fun _ _ => rfl, fun _ _ _ => rfl, fun _ _ _ _ => List.getElem?_cons_succ, fun _ _ _ => rfl, cmp_eql_t, cmp_eql_f, cmp_neq_t, cmp_neq_f, cmp_lss_t, cmp_lss_f, cmp_leq_t, cmp_leq_f, cmp_gtr_t, cmp_gtr_f, cmp_geq_t, cmp_geq_f, fun b => Bool.not_eq_true' b, fun b => Bool.not_eq_false' b, Bool.and_eq_true, fun a b => propext (Bool.and_eq_false_iff), fun _ _ _ => Option.some.injEq _ _, and_self, true_and, and_true, or_false, false_or, or_self, fun _ _ _ => EV.u.injEq _ _, not_true_eq_false, not_false_eq_true, Bool.true_eq_false, Bool.false_eq_true, fun _ _ _ => rfl, fun _ => beq_self_eq_true _, fun _ => beq_self_eq_true _, fun _ _ => rfl, fun _ _ => rfl, fun _ _ _ _ _ => rfl, fun _ _ _ => rfl, fun _ _ => rfl, fun _ _ _ => rfl, fun _ _ _ _ => rfl, fun _ _ => rfl, fun _ _ => rfl, fun _ _ => rfl, fun _ _ _ _ => rfl, fun _ _ _ => rfl, fun _ _ => rfl, fun _ _ _ => rfl, fun _ _ => rfl, fun _ _ _ _ => rfl, fun _ _ _ => rfl, fun _ _ => rfl, fun _ _ => rfl, fun _ _ => rfl, fun e i => by unfold gI; rcases e[i]? with _ | (_ | _ | _ | _ | _ | _) <;> rfl, fun _ => rfl, fun e i => by unfold gB; rcases e[i]? with _ | (_ | _ | _ | _ | _ | _) <;> rfl, fun _ => rfl, fun e i => by unfold gL; rcases e[i]? with _ | (_ | _ | _ | _ | _ | _) <;> rfl, fun _ => rfl, fun e i => by unfold gF; rcases e[i]? with _ | (_ | _ | _ | _ | _ | _) <;> rfl, fun _ _ => rfl, fun e i => by unfold gN; rcases e[i]? with _ | (_ | _ | _ | _ | _ | _) <;> rfl, fun _ _ => rfl, fun e i => by unfold gNil; rcases e[i]? with _ | (_ | _ | _ | _ | _ | _) <;> rfl, fun _ => rfl, fun _ => rfl, fun _ _ _ _ => rfl, fun _ _ _ _ => rfl, fun _ _ => rfl, fun _ _ _ => rfl, fun _ _ _ => rfl, fun _ _ _ => rfl, fun _ _ _ => rfl, fun _ _ _ => rfl, fun _ _ _ => rfl, fun _ _ _ => rfl, fun _ _ _ => rfl, fun _ _ _ => rfl, fun _ _ _ => rfl, fun _ _ _ => rfl⟩
def U.kind : U → Nat
 | .bad => 0
 | .mem _ => 1
 | .memNil => 2
 | .memZero => 3
 | .rmem _ => 4
 | .rmemNil => 5
 | .find _ => 6
 | .findNil => 7
 | .rfind _ => 8
 | .rfindNil => 9
 | .ret _ => 10
 | .retNil => 11
 | .rret _ => 12
 | .rretNil => 13
 | .ins _ => 14
 | .insNil => 15
 | .rins _ => 16
 | .rinsNil => 17
def memOk (ps : List (EV U)) : Prop := ∃ l s k a o n h N, ps = [.l l, .i s, .i k, .i a, .i o, .i n, .b h, .i N] ∧ l.length = 4096 ∧ 0 ≤ s ∧ s ≤ 4096
def memObj (ps : List (EV U)) : U :=
 match ps with
 | [.l l, .i s, .i k, .i a, .i o, .i n, .b h, .i N] => .mem ⟨l.take s.toNat, k, a, o, n, h, N⟩
 | _ => .bad
def rmemOk (ps : List (EV U)) : Prop := ∃ l s k a o n h N, ps = [.l l, .i s, .i k, .i a, .i o, .i n, .b h, .i N] ∧ (l.length : Int) = s
def rmemObj (ps : List (EV U)) : U :=
 match ps with
 | [.l l, .i _, .i k, .i a, .i o, .i n, .b h, .i N] => .rmem ⟨l, k, a, o, n, h, N⟩
 | _ => .bad
def isWd (x : Int) : Prop := 0 ≤ x ∧ x < 18446744073709551616
def find10Ok (ps : List (EV U)) : Prop := ∃ a0 a1 a3 a4 a5 a6 a7 a8 a9 a10 a11 a12 key line pred ref cur w r v0 p0 k0 s0, ps = [.i a0, .i a1, .i a3, .i a4, .i a5, .i a6, .i a7, .i a8, .i a9, .i a10, .i a11, .i a12, .i key, .i line, .i pred, .i ref, .i cur, .i w, .i r, .i v0, .i p0, .i k0, .i s0] ∧ (line = 1 ∨ line = 2 ∨ line = 3 ∨ line = 4 ∨ line = 9) ∧ isWd cur ∧ isWd w
def find10Obj (ps : List (EV U)) : U := match ps with | .i a0 :: .i a1 :: .i a3 :: .i a4 :: .i a5 :: .i a6 :: .i a7 :: .i a8 :: .i a9 :: .i a10 :: .i a11 :: .i a12 :: .i key :: .i line :: .i pred :: .i ref :: .i cur :: .i w :: .i r :: .i v0 :: .i p0 :: .i k0 :: .i s0 :: [] => .find (FindSt.norm ⟨[a0, a1, 1, a3, a4, a5, a6, a7, a8, a9, a10, a11, a12], key, line, 0, pred, ref, cur, w, [p0], [s0], [k0], r⟩) | _ => .bad
def find20Ok (ps : List (EV U)) : Prop := ∃ a0 a1 a3 a4 a5 a6 a7 a8 a9 a10 a11 a12 key line pred ref cur w r v0 p0 k0 s0 v1 p1 k1 s1, ps = [.i a0, .i a1, .i a3, .i a4, .i a5, .i a6, .i a7, .i a8, .i a9, .i a10, .i a11, .i a12, .i key, .i line, .i pred, .i ref, .i cur, .i w, .i r, .i v0, .i p0, .i k0, .i s0, .i v1, .i p1, .i k1, .i s1] ∧ (line = 1 ∨ line = 2 ∨ line = 3 ∨ line = 4 ∨ line = 9) ∧ isWd cur ∧ isWd w
def find20Obj (ps : List (EV U)) : U := match ps with | .i a0 :: .i a1 :: .i a3 :: .i a4 :: .i a5 :: .i a6 :: .i a7 :: .i a8 :: .i a9 :: .i a10 :: .i a11 :: .i a12 :: .i key :: .i line :: .i pred :: .i ref :: .i cur :: .i w :: .i r :: .i v0 :: .i p0 :: .i k0 :: .i s0 :: .i v1 :: .i p1 :: .i k1 :: .i s1 :: [] => .find (FindSt.norm ⟨[a0, a1, 2, a3, a4, a5, a6, a7, a8, a9, a10, a11, a12], key, line, 0, pred, ref, cur, w, [p0, p1], [s0, s1], [k0, k1], r⟩) | _ => .bad
def find21Ok (ps : List (EV U)) : Prop := ∃ a0 a1 a3 a4 a5 a6 a7 a8 a9 a10 a11 a12 key line pred ref cur w r v0 p0 k0 s0 v1 p1 k1 s1, ps = [.i a0, .i a1, .i a3, .i a4, .i a5, .i a6, .i a7, .i a8, .i a9, .i a10, .i a11, .i a12, .i key, .i line, .i pred, .i ref, .i cur, .i w, .i r, .i v0, .i p0, .i k0, .i s0, .i v1, .i p1, .i k1, .i s1] ∧ (line = 1 ∨ line = 2 ∨ line = 3 ∨ line = 4) ∧ isWd cur ∧ isWd w
def find21Obj (ps : List (EV U)) : U := match ps with | .i a0 :: .i a1 :: .i a3 :: .i a4 :: .i a5 :: .i a6 :: .i a7 :: .i a8 :: .i a9 :: .i a10 :: .i a11 :: .i a12 :: .i key :: .i line :: .i pred :: .i ref :: .i cur :: .i w :: .i r :: .i v0 :: .i p0 :: .i k0 :: .i s0 :: .i v1 :: .i p1 :: .i k1 :: .i s1 :: [] => .find (FindSt.norm ⟨[a0, a1, 2, a3, a4, a5, a6, a7, a8, a9, a10, a11, a12], key, line, 1, pred, ref, cur, w, [p0, p1], [s0, s1], [k0, k1], r⟩) | _ => .bad
def find30Ok (ps : List (EV U)) : Prop := ∃ a0 a1 a3 a4 a5 a6 a7 a8 a9 a10 a11 a12 key line pred ref cur w r v0 p0 k0 s0 v1 p1 k1 s1 v2 p2 k2 s2, ps = [.i a0, .i a1, .i a3, .i a4, .i a5, .i a6, .i a7, .i a8, .i a9, .i a10, .i a11, .i a12, .i key, .i line, .i pred, .i ref, .i cur, .i w, .i r, .i v0, .i p0, .i k0, .i s0, .i v1, .i p1, .i k1, .i s1, .i v2, .i p2, .i k2, .i s2] ∧ (line = 1 ∨ line = 2 ∨ line = 3 ∨ line = 4 ∨ line = 9) ∧ isWd cur ∧ isWd w
def find30Obj (ps : List (EV U)) : U := match ps with | .i a0 :: .i a1 :: .i a3 :: .i a4 :: .i a5 :: .i a6 :: .i a7 :: .i a8 :: .i a9 :: .i a10 :: .i a11 :: .i a12 :: .i key :: .i line :: .i pred :: .i ref :: .i cur :: .i w :: .i r :: .i v0 :: .i p0 :: .i k0 :: .i s0 :: .i v1 :: .i p1 :: .i k1 :: .i s1 :: .i v2 :: .i p2 :: .i k2 :: .i s2 :: [] => .find (FindSt.norm ⟨[a0, a1, 3, a3, a4, a5, a6, a7, a8, a9, a10, a11, a12], key, line, 0, pred, ref, cur, w, [p0, p1, p2], [s0, s1, s2], [k0, k1, k2], r⟩) | _ => .bad
def find31Ok (ps : List (EV U)) : Prop := ∃ a0 a1 a3 a4 a5 a6 a7 a8 a9 a10 a11 a12 key line pred ref cur w r v0 p0 k0 s0 v1 p1 k1 s1 v2 p2 k2 s2, ps = [.i a0, .i a1, .i a3, .i a4, .i a5, .i a6, .i a7, .i a8, .i a9, .i a10, .i a11, .i a12, .i key, .i line, .i pred, .i ref, .i cur, .i w, .i r, .i v0, .i p0, .i k0, .i s0, .i v1, .i p1, .i k1, .i s1, .i v2, .i p2, .i k2, .i s2] ∧ (line = 1 ∨ line = 2 ∨ line = 3 ∨ line = 4) ∧ isWd cur ∧ isWd w
def find31Obj (ps : List (EV U)) : U := match ps with | .i a0 :: .i a1 :: .i a3 :: .i a4 :: .i a5 :: .i a6 :: .i a7 :: .i a8 :: .i a9 :: .i a10 :: .i a11 :: .i a12 :: .i key :: .i line :: .i pred :: .i ref :: .i cur :: .i w :: .i r :: .i v0 :: .i p0 :: .i k0 :: .i s0 :: .i v1 :: .i p1 :: .i k1 :: .i s1 :: .i v2 :: .i p2 :: .i k2 :: .i s2 :: [] => .find (FindSt.norm ⟨[a0, a1, 3, a3, a4, a5, a6, a7, a8, a9, a10, a11, a12], key, line, 1, pred, ref, cur, w, [p0, p1, p2], [s0, s1, s2], [k0, k1, k2], r⟩) | _ => .bad
def find32Ok (ps : List (EV U)) : Prop := ∃ a0 a1 a3 a4 a5 a6 a7 a8 a9 a10 a11 a12 key line pred ref cur w r v0 p0 k0 s0 v1 p1 k1 s1 v2 p2 k2 s2, ps = [.i a0, .i a1, .i a3, .i a4, .i a5, .i a6, .i a7, .i a8, .i a9, .i a10, .i a11, .i a12, .i key, .i line, .i pred, .i ref, .i cur, .i w, .i r, .i v0, .i p0, .i k0, .i s0, .i v1, .i p1, .i k1, .i s1, .i v2, .i p2, .i k2, .i s2] ∧ (line = 1 ∨ line = 2 ∨ line = 3 ∨ line = 4) ∧ isWd cur ∧ isWd w
def find32Obj (ps : List (EV U)) : U := match ps with | .i a0 :: .i a1 :: .i a3 :: .i a4 :: .i a5 :: .i a6 :: .i a7 :: .i a8 :: .i a9 :: .i a10 :: .i a11 :: .i a12 :: .i key :: .i line :: .i pred :: .i ref :: .i cur :: .i w :: .i r :: .i v0 :: .i p0 :: .i k0 :: .i s0 :: .i v1 :: .i p1 :: .i k1 :: .i s1 :: .i v2 :: .i p2 :: .i k2 :: .i s2 :: [] => .find (FindSt.norm ⟨[a0, a1, 3, a3, a4, a5, a6, a7, a8, a9, a10, a11, a12], key, line, 2, pred, ref, cur, w, [p0, p1, p2], [s0, s1, s2], [k0, k1, k2], r⟩) | _ => .bad
def find40Ok (ps : List (EV U)) : Prop := ∃ a0 a1 a3 a4 a5 a6 a7 a8 a9 a10 a11 a12 key line pred ref cur w r v0 p0 k0 s0 v1 p1 k1 s1 v2 p2 k2 s2 v3 p3 k3 s3, ps = [.i a0, .i a1, .i a3, .i a4, .i a5, .i a6, .i a7, .i a8, .i a9, .i a10, .i a11, .i a12, .i key, .i line, .i pred, .i ref, .i cur, .i w, .i r, .i v0, .i p0, .i k0, .i s0, .i v1, .i p1, .i k1, .i s1, .i v2, .i p2, .i k2, .i s2, .i v3, .i p3, .i k3, .i s3] ∧ (line = 1 ∨ line = 2 ∨ line = 3 ∨ line = 4 ∨ line = 9) ∧ isWd cur ∧ isWd w
def find40Obj (ps : List (EV U)) : U := match ps with | .i a0 :: .i a1 :: .i a3 :: .i a4 :: .i a5 :: .i a6 :: .i a7 :: .i a8 :: .i a9 :: .i a10 :: .i a11 :: .i a12 :: .i key :: .i line :: .i pred :: .i ref :: .i cur :: .i w :: .i r :: .i v0 :: .i p0 :: .i k0 :: .i s0 :: .i v1 :: .i p1 :: .i k1 :: .i s1 :: .i v2 :: .i p2 :: .i k2 :: .i s2 :: .i v3 :: .i p3 :: .i k3 :: .i s3 :: [] => .find (FindSt.norm ⟨[a0, a1, 4, a3, a4, a5, a6, a7, a8, a9, a10, a11, a12], key, line, 0, pred, ref, cur, w, [p0, p1, p2, p3], [s0, s1, s2, s3], [k0, k1, k2, k3], r⟩) | _ => .bad
def find41Ok (ps : List (EV U)) : Prop := ∃ a0 a1 a3 a4 a5 a6 a7 a8 a9 a10 a11 a12 key line pred ref cur w r v0 p0 k0 s0 v1 p1 k1 s1 v2 p2 k2 s2 v3 p3 k3 s3, ps = [.i a0, .i a1, .i a3, .i a4, .i a5, .i a6, .i a7, .i a8, .i a9, .i a10, .i a11, .i a12, .i key, .i line, .i pred, .i ref, .i cur, .i w, .i r, .i v0, .i p0, .i k0, .i s0, .i v1, .i p1, .i k1, .i s1, .i v2, .i p2, .i k2, .i s2, .i v3, .i p3, .i k3, .i s3] ∧ (line = 1 ∨ line = 2 ∨ line = 3 ∨ line = 4) ∧ isWd cur ∧ isWd w
def find41Obj (ps : List (EV U)) : U := match ps with | .i a0 :: .i a1 :: .i a3 :: .i a4 :: .i a5 :: .i a6 :: .i a7 :: .i a8 :: .i a9 :: .i a10 :: .i a11 :: .i a12 :: .i key :: .i line :: .i pred :: .i ref :: .i cur :: .i w :: .i r :: .i v0 :: .i p0 :: .i k0 :: .i s0 :: .i v1 :: .i p1 :: .i k1 :: .i s1 :: .i v2 :: .i p2 :: .i k2 :: .i s2 :: .i v3 :: .i p3 :: .i k3 :: .i s3 :: [] => .find (FindSt.norm ⟨[a0, a1, 4, a3, a4, a5, a6, a7, a8, a9, a10, a11, a12], key, line, 1, pred, ref, cur, w, [p0, p1, p2, p3], [s0, s1, s2, s3], [k0, k1, k2, k3], r⟩) | _ => .bad
def find42Ok (ps : List (EV U)) : Prop := ∃ a0 a1 a3 a4 a5 a6 a7 a8 a9 a10 a11 a12 key line pred ref cur w r v0 p0 k0 s0 v1 p1 k1 s1 v2 p2 k2 s2 v3 p3 k3 s3, ps = [.i a0, .i a1, .i a3, .i a4, .i a5, .i a6, .i a7, .i a8, .i a9, .i a10, .i a11, .i a12, .i key, .i line, .i pred, .i ref, .i cur, .i w, .i r, .i v0, .i p0, .i k0, .i s0, .i v1, .i p1, .i k1, .i s1, .i v2, .i p2, .i k2, .i s2, .i v3, .i p3, .i k3, .i s3] ∧ (line = 1 ∨ line = 2 ∨ line = 3 ∨ line = 4) ∧ isWd cur ∧ isWd w
def find42Obj (ps : List (EV U)) : U := match ps with | .i a0 :: .i a1 :: .i a3 :: .i a4 :: .i a5 :: .i a6 :: .i a7 :: .i a8 :: .i a9 :: .i a10 :: .i a11 :: .i a12 :: .i key :: .i line :: .i pred :: .i ref :: .i cur :: .i w :: .i r :: .i v0 :: .i p0 :: .i k0 :: .i s0 :: .i v1 :: .i p1 :: .i k1 :: .i s1 :: .i v2 :: .i p2 :: .i k2 :: .i s2 :: .i v3 :: .i p3 :: .i k3 :: .i s3 :: [] => .find (FindSt.norm ⟨[a0, a1, 4, a3, a4, a5, a6, a7, a8, a9, a10, a11, a12], key, line, 2, pred, ref, cur, w, [p0, p1, p2, p3], [s0, s1, s2, s3], [k0, k1, k2, k3], r⟩) | _ => .bad
def find43Ok (ps : List (EV U)) : Prop := ∃ a0 a1 a3 a4 a5 a6 a7 a8 a9 a10 a11 a12 key line pred ref cur w r v0 p0 k0 s0 v1 p1 k1 s1 v2 p2 k2 s2 v3 p3 k3 s3, ps = [.i a0, .i a1, .i a3, .i a4, .i a5, .i a6, .i a7, .i a8, .i a9, .i a10, .i a11, .i a12, .i key, .i line, .i pred, .i ref, .i cur, .i w, .i r, .i v0, .i p0, .i k0, .i s0, .i v1, .i p1, .i k1, .i s1, .i v2, .i p2, .i k2, .i s2, .i v3, .i p3, .i k3, .i s3] ∧ (line = 1 ∨ line = 2 ∨ line = 3 ∨ line = 4) ∧ isWd cur ∧ isWd w
def find43Obj (ps : List (EV U)) : U := match ps with | .i a0 :: .i a1 :: .i a3 :: .i a4 :: .i a5 :: .i a6 :: .i a7 :: .i a8 :: .i a9 :: .i a10 :: .i a11 :: .i a12 :: .i key :: .i line :: .i pred :: .i ref :: .i cur :: .i w :: .i r :: .i v0 :: .i p0 :: .i k0 :: .i s0 :: .i v1 :: .i p1 :: .i k1 :: .i s1 :: .i v2 :: .i p2 :: .i k2 :: .i s2 :: .i v3 :: .i p3 :: .i k3 :: .i s3 :: [] => .find (FindSt.norm ⟨[a0, a1, 4, a3, a4, a5, a6, a7, a8, a9, a10, a11, a12], key, line, 3, pred, ref, cur, w, [p0, p1, p2, p3], [s0, s1, s2, s3], [k0, k1, k2, k3], r⟩) | _ => .bad
def rfindOk (ps : List (EV U)) : Prop := ∃ a0 a1 a2 a3 a4 a5 a6 a7 a8 a9 a10 a11 a12 key line l pred ref cur w r P S K, ps = [.i a0, .i a1, .i a2, .i a3, .i a4, .i a5, .i a6, .i a7, .i a8, .i a9, .i a10, .i a11, .i a12, .i key, .i line, .i l, .i pred, .i ref, .i cur, .i w, .i r, .l P, .l S, .l K] ∧ ((line = 1 ∨ line = 2 ∨ line = 3 ∨ line = 4) ∧ 0 ≤ l ∧ l < a2 ∨ line = 9 ∧ l = -1) ∧ isWd cur ∧ isWd w ∧ (line = 3 → 9223372036854775808 ≤ w) ∧ 1 ≤ a2 ∧ a2 ≤ 4 ∧ (P.length : Int) = a2 ∧ (S.length : Int) = a2 ∧ (K.length : Int) = a2
def rfindObj (ps : List (EV U)) : U := match ps with | [.i a0, .i a1, .i a2, .i a3, .i a4, .i a5, .i a6, .i a7, .i a8, .i a9, .i a10, .i a11, .i a12, .i key, .i line, .i l, .i pred, .i ref, .i cur, .i w, .i r, .l P, .l S, .l K] => .rfind (FindSt.norm ⟨[a0, a1, a2, a3, a4, a5, a6, a7, a8, a9, a10, a11, a12], key, line, l, pred, ref, cur, w, P, S, K, r⟩) | _ => .bad
def retAOk (ps : List (EV U)) : Prop := ∃ t ls s g wo lm ea ep ec tp i : Int, ps = [.i t, .i ls, .i s, .i g, .i wo, .i lm, .i ea, .i ep, .i ec, .i tp, .i i] ∧ 0 ≤ i ∧ i < s ∧ s ≤ 4096
def retAObj (ps : List (EV U)) : U := match ps with | .i t :: .i ls :: .i s :: .i g :: .i wo :: .i lm :: .i ea :: .i ep :: .i ec :: .i tp :: .i i :: [] => .ret ⟨[t, ls, s, g, wo, lm, ea, ep, ec, tp], i, 0, 0, 0, 0, 0⟩ | _ => .bad
def retB1Ok (ps : List (EV U)) : Prop := ∃ t ls s g wo lm ea ep ec tp i st w j : Int, ps = [.i t, .i ls, .i s, .i g, .i wo, .i lm, .i ea, .i ep, .i ec, .i tp, .i i, .i st, .i w, .i j] ∧ 0 ≤ i ∧ i < s ∧ s ≤ 4096 ∧ isWd w
def retB1Obj (ps : List (EV U)) : U := match ps with | .i t :: .i ls :: .i s :: .i g :: .i wo :: .i lm :: .i ea :: .i ep :: .i ec :: .i tp :: .i i :: .i st :: .i w :: .i j :: [] => .ret ⟨[t, ls, s, g, wo, lm, ea, ep, ec, tp], i, 1, st, 1, 0, 0⟩ | _ => .bad
def retB2Ok (ps : List (EV U)) : Prop := ∃ t ls s g wo lm ea ep ec tp i st w j : Int, ps = [.i t, .i ls, .i s, .i g, .i wo, .i lm, .i ea, .i ep, .i ec, .i tp, .i i, .i st, .i w, .i j] ∧ 0 ≤ i ∧ i < s ∧ s ≤ 4096 ∧ isWd w ∧ j = idxW s w
def retB2Obj (ps : List (EV U)) : U := match ps with | .i t :: .i ls :: .i s :: .i g :: .i wo :: .i lm :: .i ea :: .i ep :: .i ec :: .i tp :: .i i :: .i st :: .i w :: .i j :: [] => .ret ⟨[t, ls, s, g, wo, lm, ea, ep, ec, tp], i, 1, st, 2, w, 0⟩ | _ => .bad
def retB3Ok (ps : List (EV U)) : Prop := ∃ t ls s g wo lm ea ep ec tp i st w j : Int, ps = [.i t, .i ls, .i s, .i g, .i wo, .i lm, .i ea, .i ep, .i ec, .i tp, .i i, .i st, .i w, .i j] ∧ 0 ≤ i ∧ i < s ∧ s ≤ 4096 ∧ isWd w
def retB3Obj (ps : List (EV U)) : U := match ps with | .i t :: .i ls :: .i s :: .i g :: .i wo :: .i lm :: .i ea :: .i ep :: .i ec :: .i tp :: .i i :: .i st :: .i w :: .i j :: [] => .ret ⟨[t, ls, s, g, wo, lm, ea, ep, ec, tp], i, 1, st, 3, w, 0⟩ | _ => .bad
def retCOk (ps : List (EV U)) : Prop := ∃ t ls s g wo lm ea ep ec tp i st w j : Int, ps = [.i t, .i ls, .i s, .i g, .i wo, .i lm, .i ea, .i ep, .i ec, .i tp, .i i, .i st, .i w, .i j] ∧ True
def retCObj (ps : List (EV U)) : U := match ps with | .i t :: .i ls :: .i s :: .i g :: .i wo :: .i lm :: .i ea :: .i ep :: .i ec :: .i tp :: .i i :: .i st :: .i w :: .i j :: [] => .ret ⟨[t, ls, s, g, wo, lm, ea, ep, ec, tp], i, 9, 0, 0, 0, 0⟩ | _ => .bad
def retROk (ps : List (EV U)) : Prop := ∃ t ls s g wo lm ea ep ec tp i e : Int, ps = [.i t, .i ls, .i s, .i g, .i wo, .i lm, .i ea, .i ep, .i ec, .i tp, .i i, .i e] ∧ e ≠ 0
def retRObj (ps : List (EV U)) : U := match ps with | .i t :: .i ls :: .i s :: .i g :: .i wo :: .i lm :: .i ea :: .i ep :: .i ec :: .i tp :: .i i :: .i e :: [] => .ret ⟨[t, ls, s, g, wo, lm, ea, ep, ec, tp], i, 9, 0, 0, 0, e⟩ | _ => .bad
def rretAOk (ps : List (EV U)) : Prop := ∃ t ls s g wo lm ea ep ec tp i : Int, ps = [.i t, .i ls, .i s, .i g, .i wo, .i lm, .i ea, .i ep, .i ec, .i tp, .i i] ∧ 0 ≤ i ∧ i < s ∧ s ≤ 4096
def rretAObj (ps : List (EV U)) : U := match ps with | .i t :: .i ls :: .i s :: .i g :: .i wo :: .i lm :: .i ea :: .i ep :: .i ec :: .i tp :: .i i :: [] => .rret ⟨[t, ls, s, g, wo, lm, ea, ep, ec, tp], i, 0, 0, 0, 0, 0⟩ | _ => .bad
def rretBOk (ps : List (EV U)) : Prop := ∃ t ls s g wo lm ea ep ec tp i st pl w line : Int, ps = [.i t, .i ls, .i s, .i g, .i wo, .i lm, .i ea, .i ep, .i ec, .i tp, .i i, .i st, .i pl, .i w, .i line] ∧ 0 ≤ i ∧ i < s ∧ s ≤ 4096 ∧ isWd w ∧ (line = 1 ∧ (pl = 1 ∨ pl = 2 ∨ pl = 3) ∨ line = 9 ∧ pl = 9)
def rretBObj (ps : List (EV U)) : U := match ps with | .i t :: .i ls :: .i s :: .i g :: .i wo :: .i lm :: .i ea :: .i ep :: .i ec :: .i tp :: .i i :: .i st :: .i pl :: .i w :: .i line :: [] => .rret ⟨[t, ls, s, g, wo, lm, ea, ep, ec, tp], i, line, (if line = 9 then 0 else st), (if line = 9 then 0 else pl), (if line = 1 ∧ pl ≠ 1 then w else 0), 0⟩ | _ => .bad
def rretROk (ps : List (EV U)) : Prop := ∃ t ls s g wo lm ea ep ec tp i e : Int, ps = [.i t, .i ls, .i s, .i g, .i wo, .i lm, .i ea, .i ep, .i ec, .i tp, .i i, .i e] ∧ e ≠ 0
def rretRObj (ps : List (EV U)) : U := match ps with | .i t :: .i ls :: .i s :: .i g :: .i wo :: .i lm :: .i ea :: .i ep :: .i ec :: .i tp :: .i i :: .i e :: [] => .rret ⟨[t, ls, s, g, wo, lm, ea, ep, ec, tp], i, 9, 0, 0, 0, e⟩ | _ => .bad
def ins1Ok (ps : List (EV U)) : Prop := ∃ a0 a1 a2 a3 a4 a5 a6 a7 a8 a9 a10 a11 a12 ref key i high lv w by_ : Int, ∃ F : FindSt, ps = [.i a0, .i a1, .i a2, .i a3, .i a4, .i a5, .i a6, .i a7, .i a8, .i a9, .i a10, .i a11, .i a12, .i ref, .i key, .i i, .i high, .i lv, .i w, .i by_, .u (.find F)] ∧ okI a0 a1 a2 a5 i high ∧ F.shape a2
def ins1Obj (ps : List (EV U)) : U := match ps with | .i a0 :: .i a1 :: .i a2 :: .i a3 :: .i a4 :: .i a5 :: .i a6 :: .i a7 :: .i a8 :: .i a9 :: .i a10 :: .i a11 :: .i a12 :: .i ref :: .i key :: .i i :: .i high :: .i lv :: .i w :: .i by_ :: .u (.find F) :: [] => .ins ⟨[a0, a1, a2, a3, a4, a5, a6, a7, a8, a9, a10, a11, a12], ref, key, i, high, 1, 0, 0, F, R0, by_, false, 0⟩ | _ => .bad
def ins2Ok (ps : List (EV U)) : Prop := ∃ a0 a1 a2 a3 a4 a5 a6 a7 a8 a9 a10 a11 a12 ref key i high lv w by_ : Int, ∃ F : FindSt, ps = [.i a0, .i a1, .i a2, .i a3, .i a4, .i a5, .i a6, .i a7, .i a8, .i a9, .i a10, .i a11, .i a12, .i ref, .i key, .i i, .i high, .i lv, .i w, .i by_, .u (.find F)] ∧ okI a0 a1 a2 a5 i high ∧ F.shape a2 ∧ F.line = 9 ∧ 0 ≤ lv ∧ lv < high
def ins2Obj (ps : List (EV U)) : U := match ps with | .i a0 :: .i a1 :: .i a2 :: .i a3 :: .i a4 :: .i a5 :: .i a6 :: .i a7 :: .i a8 :: .i a9 :: .i a10 :: .i a11 :: .i a12 :: .i ref :: .i key :: .i i :: .i high :: .i lv :: .i w :: .i by_ :: .u (.find F) :: [] => .ins ⟨[a0, a1, a2, a3, a4, a5, a6, a7, a8, a9, a10, a11, a12], ref, key, i, high, 2, lv, 0, F, R0, by_, false, 0⟩ | _ => .bad
def ins3Ok (ps : List (EV U)) : Prop := ∃ a0 a1 a2 a3 a4 a5 a6 a7 a8 a9 a10 a11 a12 ref key i high lv w by_ : Int, ∃ F : FindSt, ps = [.i a0, .i a1, .i a2, .i a3, .i a4, .i a5, .i a6, .i a7, .i a8, .i a9, .i a10, .i a11, .i a12, .i ref, .i key, .i i, .i high, .i lv, .i w, .i by_, .u (.find F)] ∧ okI a0 a1 a2 a5 i high ∧ F.shape a2 ∧ F.line = 9 ∧ lv = 0
def ins3Obj (ps : List (EV U)) : U := match ps with | .i a0 :: .i a1 :: .i a2 :: .i a3 :: .i a4 :: .i a5 :: .i a6 :: .i a7 :: .i a8 :: .i a9 :: .i a10 :: .i a11 :: .i a12 :: .i ref :: .i key :: .i i :: .i high :: .i lv :: .i w :: .i by_ :: .u (.find F) :: [] => .ins ⟨[a0, a1, a2, a3, a4, a5, a6, a7, a8, a9, a10, a11, a12], ref, key, i, high, 3, 0, 0, F, R0, by_, false, 0⟩ | _ => .bad
def ins4Ok (ps : List (EV U)) : Prop := ∃ a0 a1 a2 a3 a4 a5 a6 a7 a8 a9 a10 a11 a12 ref key i high lv w by_ : Int, ∃ F : FindSt, ps = [.i a0, .i a1, .i a2, .i a3, .i a4, .i a5, .i a6, .i a7, .i a8, .i a9, .i a10, .i a11, .i a12, .i ref, .i key, .i i, .i high, .i lv, .i w, .i by_, .u (.find F)] ∧ okI a0 a1 a2 a5 i high ∧ F.shape a2 ∧ F.line = 9 ∧ 0 ≤ lv ∧ lv < high
def ins4Obj (ps : List (EV U)) : U := match ps with | .i a0 :: .i a1 :: .i a2 :: .i a3 :: .i a4 :: .i a5 :: .i a6 :: .i a7 :: .i a8 :: .i a9 :: .i a10 :: .i a11 :: .i a12 :: .i ref :: .i key :: .i i :: .i high :: .i lv :: .i w :: .i by_ :: .u (.find F) :: [] => .ins ⟨[a0, a1, a2, a3, a4, a5, a6, a7, a8, a9, a10, a11, a12], ref, key, i, high, 4, lv, 0, F, R0, by_, true, 0⟩ | _ => .bad
def ins5Ok (ps : List (EV U)) : Prop := ∃ a0 a1 a2 a3 a4 a5 a6 a7 a8 a9 a10 a11 a12 ref key i high lv w : Int, ∃ F : FindSt, ps = [.i a0, .i a1, .i a2, .i a3, .i a4, .i a5, .i a6, .i a7, .i a8, .i a9, .i a10, .i a11, .i a12, .i ref, .i key, .i i, .i high, .i lv, .i w, .u (.find F)] ∧ okI a0 a1 a2 a5 i high ∧ F.shape a2 ∧ F.line = 9 ∧ 0 ≤ lv ∧ lv < high
def ins5Obj (ps : List (EV U)) : U := match ps with | .i a0 :: .i a1 :: .i a2 :: .i a3 :: .i a4 :: .i a5 :: .i a6 :: .i a7 :: .i a8 :: .i a9 :: .i a10 :: .i a11 :: .i a12 :: .i ref :: .i key :: .i i :: .i high :: .i lv :: .i w :: .u (.find F) :: [] => .ins ⟨[a0, a1, a2, a3, a4, a5, a6, a7, a8, a9, a10, a11, a12], ref, key, i, high, 5, lv, w, F, R0, ref, true, 0⟩ | _ => .bad
def ins6Ok (ps : List (EV U)) : Prop := ∃ a0 a1 a2 a3 a4 a5 a6 a7 a8 a9 a10 a11 a12 ref key i high lv w by_ : Int, ∃ F : FindSt, ps = [.i a0, .i a1, .i a2, .i a3, .i a4, .i a5, .i a6, .i a7, .i a8, .i a9, .i a10, .i a11, .i a12, .i ref, .i key, .i i, .i high, .i lv, .i w, .i by_, .u (.find F)] ∧ okI a0 a1 a2 a5 i high ∧ F.shape a2 ∧ F.line = 9 ∧ 0 ≤ lv ∧ lv < high
def ins6Obj (ps : List (EV U)) : U := match ps with | .i a0 :: .i a1 :: .i a2 :: .i a3 :: .i a4 :: .i a5 :: .i a6 :: .i a7 :: .i a8 :: .i a9 :: .i a10 :: .i a11 :: .i a12 :: .i ref :: .i key :: .i i :: .i high :: .i lv :: .i w :: .i by_ :: .u (.find F) :: [] => .ins ⟨[a0, a1, a2, a3, a4, a5, a6, a7, a8, a9, a10, a11, a12], ref, key, i, high, 6, lv, 0, F, R0, by_, true, 0⟩ | _ => .bad
def ins7Ok (ps : List (EV U)) : Prop := ∃ a0 a1 a2 a3 a4 a5 a6 a7 a8 a9 a10 a11 a12 ref key i high lv w by_ : Int, ∃ F : FindSt, ps = [.i a0, .i a1, .i a2, .i a3, .i a4, .i a5, .i a6, .i a7, .i a8, .i a9, .i a10, .i a11, .i a12, .i ref, .i key, .i i, .i high, .i lv, .i w, .i by_, .u (.find F)] ∧ okI a0 a1 a2 a5 i high ∧ F.shape a2 ∧ 0 ≤ lv ∧ lv < high
def ins7Obj (ps : List (EV U)) : U := match ps with | .i a0 :: .i a1 :: .i a2 :: .i a3 :: .i a4 :: .i a5 :: .i a6 :: .i a7 :: .i a8 :: .i a9 :: .i a10 :: .i a11 :: .i a12 :: .i ref :: .i key :: .i i :: .i high :: .i lv :: .i w :: .i by_ :: .u (.find F) :: [] => .ins ⟨[a0, a1, a2, a3, a4, a5, a6, a7, a8, a9, a10, a11, a12], ref, key, i, high, 7, lv, 0, F, R0, by_, true, 0⟩ | _ => .bad
def ins8Ok (ps : List (EV U)) : Prop := ∃ a0 a1 a2 a3 a4 a5 a6 a7 a8 a9 a10 a11 a12 ref key i high lv w by_ : Int, ∃ F : FindSt, ps = [.i a0, .i a1, .i a2, .i a3, .i a4, .i a5, .i a6, .i a7, .i a8, .i a9, .i a10, .i a11, .i a12, .i ref, .i key, .i i, .i high, .i lv, .i w, .i by_, .u (.find F)] ∧ okI a0 a1 a2 a5 i high ∧ F.shape a2 ∧ F.line = 9 ∧ 0 ≤ lv ∧ lv < high
def ins8Obj (ps : List (EV U)) : U := match ps with | .i a0 :: .i a1 :: .i a2 :: .i a3 :: .i a4 :: .i a5 :: .i a6 :: .i a7 :: .i a8 :: .i a9 :: .i a10 :: .i a11 :: .i a12 :: .i ref :: .i key :: .i i :: .i high :: .i lv :: .i w :: .i by_ :: .u (.find F) :: [] => .ins ⟨[a0, a1, a2, a3, a4, a5, a6, a7, a8, a9, a10, a11, a12], ref, key, i, high, 8, lv, 0, F, R0, by_, true, 0⟩ | _ => .bad
def ins9Ok (ps : List (EV U)) : Prop := ∃ a0 a1 a2 a3 a4 a5 a6 a7 a8 a9 a10 a11 a12 ref key i high lv w by_ : Int, ∃ F : FindSt, ps = [.i a0, .i a1, .i a2, .i a3, .i a4, .i a5, .i a6, .i a7, .i a8, .i a9, .i a10, .i a11, .i a12, .i ref, .i key, .i i, .i high, .i lv, .i w, .i by_, .u (.find F)] ∧ okI a0 a1 a2 a5 i high
def ins9Obj (ps : List (EV U)) : U := match ps with | .i a0 :: .i a1 :: .i a2 :: .i a3 :: .i a4 :: .i a5 :: .i a6 :: .i a7 :: .i a8 :: .i a9 :: .i a10 :: .i a11 :: .i a12 :: .i ref :: .i key :: .i i :: .i high :: .i lv :: .i w :: .i by_ :: .u (.find F) :: [] => .ins ⟨[a0, a1, a2, a3, a4, a5, a6, a7, a8, a9, a10, a11, a12], ref, key, i, high, 9, 0, 0, F0, R0, by_, true, 0⟩ | _ => .bad
def ins10Ok (ps : List (EV U)) : Prop := ∃ a0 a1 a2 a3 a4 a5 a6 a7 a8 a9 a10 a11 a12 ref key i high lv w by_ : Int, ∃ F : FindSt, ps = [.i a0, .i a1, .i a2, .i a3, .i a4, .i a5, .i a6, .i a7, .i a8, .i a9, .i a10, .i a11, .i a12, .i ref, .i key, .i i, .i high, .i lv, .i w, .i by_, .u (.find F)] ∧ okI a0 a1 a2 a5 i high ∧ F.shape a2
def ins10Obj (ps : List (EV U)) : U := match ps with | .i a0 :: .i a1 :: .i a2 :: .i a3 :: .i a4 :: .i a5 :: .i a6 :: .i a7 :: .i a8 :: .i a9 :: .i a10 :: .i a11 :: .i a12 :: .i ref :: .i key :: .i i :: .i high :: .i lv :: .i w :: .i by_ :: .u (.find F) :: [] => .ins ⟨[a0, a1, a2, a3, a4, a5, a6, a7, a8, a9, a10, a11, a12], ref, key, i, high, 10, 0, 0, F, R0, by_, true, 0⟩ | _ => .bad
def ins11Ok (ps : List (EV U)) : Prop := ∃ a0 a1 a2 a3 a4 a5 a6 a7 a8 a9 a10 a11 a12 ref key i high lv w by_ : Int, ∃ F : FindSt, ps = [.i a0, .i a1, .i a2, .i a3, .i a4, .i a5, .i a6, .i a7, .i a8, .i a9, .i a10, .i a11, .i a12, .i ref, .i key, .i i, .i high, .i lv, .i w, .i by_, .u (.find F)] ∧ okI a0 a1 a2 a5 i high
def ins11Obj (ps : List (EV U)) : U := match ps with | .i a0 :: .i a1 :: .i a2 :: .i a3 :: .i a4 :: .i a5 :: .i a6 :: .i a7 :: .i a8 :: .i a9 :: .i a10 :: .i a11 :: .i a12 :: .i ref :: .i key :: .i i :: .i high :: .i lv :: .i w :: .i by_ :: .u (.find F) :: [] => .ins ⟨[a0, a1, a2, a3, a4, a5, a6, a7, a8, a9, a10, a11, a12], ref, key, i, high, 11, 0, 0, F0, R0, by_, true, 0⟩ | _ => .bad
def ins12Ok (ps : List (EV U)) : Prop := ∃ a0 a1 a2 a3 a4 a5 a6 a7 a8 a9 a10 a11 a12 ref key i high lv w by_ : Int, ∃ F : FindSt, ∃ Rr : RetSt, ps = [.i a0, .i a1, .i a2, .i a3, .i a4, .i a5, .i a6, .i a7, .i a8, .i a9, .i a10, .i a11, .i a12, .i ref, .i key, .i i, .i high, .i lv, .i w, .i by_, .u (.find F), .u (.ret Rr)] ∧ okI a0 a1 a2 a5 i high
def ins12Obj (ps : List (EV U)) : U := match ps with | .i a0 :: .i a1 :: .i a2 :: .i a3 :: .i a4 :: .i a5 :: .i a6 :: .i a7 :: .i a8 :: .i a9 :: .i a10 :: .i a11 :: .i a12 :: .i ref :: .i key :: .i i :: .i high :: .i lv :: .i w :: .i by_ :: .u (.find F) :: .u (.ret Rr) :: [] => .ins ⟨[a0, a1, a2, a3, a4, a5, a6, a7, a8, a9, a10, a11, a12], ref, key, i, high, 12, 0, 0, F0, Rr, by_, true, 0⟩ | _ => .bad
def insROk (ps : List (EV U)) : Prop := ∃ a0 a1 a2 a3 a4 a5 a6 a7 a8 a9 a10 a11 a12 ref key high e : Int, ps = [.i a0, .i a1, .i a2, .i a3, .i a4, .i a5, .i a6, .i a7, .i a8, .i a9, .i a10, .i a11, .i a12, .i ref, .i key, .i high, .i e] ∧ e ≠ 0
def insRObj (ps : List (EV U)) : U := match ps with | .i a0 :: .i a1 :: .i a2 :: .i a3 :: .i a4 :: .i a5 :: .i a6 :: .i a7 :: .i a8 :: .i a9 :: .i a10 :: .i a11 :: .i a12 :: .i ref :: .i key :: .i high :: .i e :: [] => .ins ⟨[], 0, 0, 0, 0, 0, 0, 0, F0, R0, 0, false, e⟩ | _ => .bad
def insEOk (ps : List (EV U)) : Prop := ∃ a0 a1 a2 a3 a4 a5 a6 a7 a8 a9 a10 a11 a12 ref key i high lv w by_ : Int, ∃ F : FindSt, ps = [.i a0, .i a1, .i a2, .i a3, .i a4, .i a5, .i a6, .i a7, .i a8, .i a9, .i a10, .i a11, .i a12, .i ref, .i key, .i i, .i high, .i lv, .i w, .i by_, .u (.find F)] ∧ True
def insEObj (ps : List (EV U)) : U := match ps with | .i a0 :: .i a1 :: .i a2 :: .i a3 :: .i a4 :: .i a5 :: .i a6 :: .i a7 :: .i a8 :: .i a9 :: .i a10 :: .i a11 :: .i a12 :: .i ref :: .i key :: .i i :: .i high :: .i lv :: .i w :: .i by_ :: .u (.find F) :: [] => .ins ⟨[], 0, 0, 0, 0, 0, 0, 0, F0, R0, by_, true, 0⟩ | _ => .bad
def insGOk (ps : List (EV U)) : Prop := ∃ a0 a1 a2 a3 a4 a5 a6 a7 a8 a9 a10 a11 a12 ref key i high lv w by_ : Int, ∃ F : FindSt, ∃ Rr : RetSt, ps = [.i a0, .i a1, .i a2, .i a3, .i a4, .i a5, .i a6, .i a7, .i a8, .i a9, .i a10, .i a11, .i a12, .i ref, .i key, .i i, .i high, .i lv, .i w, .i by_, .u (.find F), .u (.ret Rr)] ∧ True
def insGObj (ps : List (EV U)) : U := match ps with | .i a0 :: .i a1 :: .i a2 :: .i a3 :: .i a4 :: .i a5 :: .i a6 :: .i a7 :: .i a8 :: .i a9 :: .i a10 :: .i a11 :: .i a12 :: .i ref :: .i key :: .i i :: .i high :: .i lv :: .i w :: .i by_ :: .u (.find F) :: .u (.ret Rr) :: [] => .ins ⟨[], 0, 0, 0, 0, 0, 0, 0, F0, R0, by_, true, 0⟩ | _ => .bad
def rins1Ok (ps : List (EV U)) : Prop := ∃ a0 a1 a2 a3 a4 a5 a6 a7 a8 a9 a10 a11 a12 ref key i high lv w by_ : Int, ∃ F : FindSt, ps = [.i a0, .i a1, .i a2, .i a3, .i a4, .i a5, .i a6, .i a7, .i a8, .i a9, .i a10, .i a11, .i a12, .i ref, .i key, .i i, .i high, .i lv, .i w, .i by_, .u (.rfind F)] ∧ okI a0 a1 a2 a5 i high ∧ F.shape a2
def rins1Obj (ps : List (EV U)) : U := match ps with | .i a0 :: .i a1 :: .i a2 :: .i a3 :: .i a4 :: .i a5 :: .i a6 :: .i a7 :: .i a8 :: .i a9 :: .i a10 :: .i a11 :: .i a12 :: .i ref :: .i key :: .i i :: .i high :: .i lv :: .i w :: .i by_ :: .u (.rfind F) :: [] => .rins ⟨[a0, a1, a2, a3, a4, a5, a6, a7, a8, a9, a10, a11, a12], ref, key, i, high, 1, 0, 0, F, R0, by_, false, 0⟩ | _ => .bad
def rins2Ok (ps : List (EV U)) : Prop := ∃ a0 a1 a2 a3 a4 a5 a6 a7 a8 a9 a10 a11 a12 ref key i high lv w by_ : Int, ∃ F : FindSt, ps = [.i a0, .i a1, .i a2, .i a3, .i a4, .i a5, .i a6, .i a7, .i a8, .i a9, .i a10, .i a11, .i a12, .i ref, .i key, .i i, .i high, .i lv, .i w, .i by_, .u (.rfind F)] ∧ okI a0 a1 a2 a5 i high ∧ F.shape a2 ∧ F.line = 9 ∧ 0 ≤ lv ∧ lv < high
def rins2Obj (ps : List (EV U)) : U := match ps with | .i a0 :: .i a1 :: .i a2 :: .i a3 :: .i a4 :: .i a5 :: .i a6 :: .i a7 :: .i a8 :: .i a9 :: .i a10 :: .i a11 :: .i a12 :: .i ref :: .i key :: .i i :: .i high :: .i lv :: .i w :: .i by_ :: .u (.rfind F) :: [] => .rins ⟨[a0, a1, a2, a3, a4, a5, a6, a7, a8, a9, a10, a11, a12], ref, key, i, high, 2, lv, 0, F, R0, by_, false, 0⟩ | _ => .bad
def rins3Ok (ps : List (EV U)) : Prop := ∃ a0 a1 a2 a3 a4 a5 a6 a7 a8 a9 a10 a11 a12 ref key i high lv w by_ : Int, ∃ F : FindSt, ps = [.i a0, .i a1, .i a2, .i a3, .i a4, .i a5, .i a6, .i a7, .i a8, .i a9, .i a10, .i a11, .i a12, .i ref, .i key, .i i, .i high, .i lv, .i w, .i by_, .u (.rfind F)] ∧ okI a0 a1 a2 a5 i high ∧ F.shape a2 ∧ F.line = 9 ∧ lv = 0
def rins3Obj (ps : List (EV U)) : U := match ps with | .i a0 :: .i a1 :: .i a2 :: .i a3 :: .i a4 :: .i a5 :: .i a6 :: .i a7 :: .i a8 :: .i a9 :: .i a10 :: .i a11 :: .i a12 :: .i ref :: .i key :: .i i :: .i high :: .i lv :: .i w :: .i by_ :: .u (.rfind F) :: [] => .rins ⟨[a0, a1, a2, a3, a4, a5, a6, a7, a8, a9, a10, a11, a12], ref, key, i, high, 3, 0, 0, F, R0, by_, false, 0⟩ | _ => .bad
def rins4Ok (ps : List (EV U)) : Prop := ∃ a0 a1 a2 a3 a4 a5 a6 a7 a8 a9 a10 a11 a12 ref key i high lv w by_ : Int, ∃ F : FindSt, ps = [.i a0, .i a1, .i a2, .i a3, .i a4, .i a5, .i a6, .i a7, .i a8, .i a9, .i a10, .i a11, .i a12, .i ref, .i key, .i i, .i high, .i lv, .i w, .i by_, .u (.rfind F)] ∧ okI a0 a1 a2 a5 i high ∧ F.shape a2 ∧ F.line = 9 ∧ 0 ≤ lv ∧ lv < high
def rins4Obj (ps : List (EV U)) : U := match ps with | .i a0 :: .i a1 :: .i a2 :: .i a3 :: .i a4 :: .i a5 :: .i a6 :: .i a7 :: .i a8 :: .i a9 :: .i a10 :: .i a11 :: .i a12 :: .i ref :: .i key :: .i i :: .i high :: .i lv :: .i w :: .i by_ :: .u (.rfind F) :: [] => .rins ⟨[a0, a1, a2, a3, a4, a5, a6, a7, a8, a9, a10, a11, a12], ref, key, i, high, 4, lv, 0, F, R0, by_, true, 0⟩ | _ => .bad
def rins5Ok (ps : List (EV U)) : Prop := ∃ a0 a1 a2 a3 a4 a5 a6 a7 a8 a9 a10 a11 a12 ref key i high lv w by_ : Int, ∃ F : FindSt, ps = [.i a0, .i a1, .i a2, .i a3, .i a4, .i a5, .i a6, .i a7, .i a8, .i a9, .i a10, .i a11, .i a12, .i ref, .i key, .i i, .i high, .i lv, .i w, .i by_, .u (.rfind F)] ∧ okI a0 a1 a2 a5 i high ∧ F.shape a2 ∧ F.line = 9 ∧ 0 ≤ lv ∧ lv < high
def rins5Obj (ps : List (EV U)) : U := match ps with | .i a0 :: .i a1 :: .i a2 :: .i a3 :: .i a4 :: .i a5 :: .i a6 :: .i a7 :: .i a8 :: .i a9 :: .i a10 :: .i a11 :: .i a12 :: .i ref :: .i key :: .i i :: .i high :: .i lv :: .i w :: .i by_ :: .u (.rfind F) :: [] => .rins ⟨[a0, a1, a2, a3, a4, a5, a6, a7, a8, a9, a10, a11, a12], ref, key, i, high, 5, lv, w, F, R0, by_, true, 0⟩ | _ => .bad
def rins6Ok (ps : List (EV U)) : Prop := ∃ a0 a1 a2 a3 a4 a5 a6 a7 a8 a9 a10 a11 a12 ref key i high lv w by_ : Int, ∃ F : FindSt, ps = [.i a0, .i a1, .i a2, .i a3, .i a4, .i a5, .i a6, .i a7, .i a8, .i a9, .i a10, .i a11, .i a12, .i ref, .i key, .i i, .i high, .i lv, .i w, .i by_, .u (.rfind F)] ∧ okI a0 a1 a2 a5 i high ∧ F.shape a2 ∧ F.line = 9 ∧ 0 ≤ lv ∧ lv < high
def rins6Obj (ps : List (EV U)) : U := match ps with | .i a0 :: .i a1 :: .i a2 :: .i a3 :: .i a4 :: .i a5 :: .i a6 :: .i a7 :: .i a8 :: .i a9 :: .i a10 :: .i a11 :: .i a12 :: .i ref :: .i key :: .i i :: .i high :: .i lv :: .i w :: .i by_ :: .u (.rfind F) :: [] => .rins ⟨[a0, a1, a2, a3, a4, a5, a6, a7, a8, a9, a10, a11, a12], ref, key, i, high, 6, lv, 0, F, R0, by_, true, 0⟩ | _ => .bad
def rins7Ok (ps : List (EV U)) : Prop := ∃ a0 a1 a2 a3 a4 a5 a6 a7 a8 a9 a10 a11 a12 ref key i high lv w by_ : Int, ∃ F : FindSt, ps = [.i a0, .i a1, .i a2, .i a3, .i a4, .i a5, .i a6, .i a7, .i a8, .i a9, .i a10, .i a11, .i a12, .i ref, .i key, .i i, .i high, .i lv, .i w, .i by_, .u (.rfind F)] ∧ okI a0 a1 a2 a5 i high ∧ F.shape a2 ∧ 0 ≤ lv ∧ lv < high
def rins7Obj (ps : List (EV U)) : U := match ps with | .i a0 :: .i a1 :: .i a2 :: .i a3 :: .i a4 :: .i a5 :: .i a6 :: .i a7 :: .i a8 :: .i a9 :: .i a10 :: .i a11 :: .i a12 :: .i ref :: .i key :: .i i :: .i high :: .i lv :: .i w :: .i by_ :: .u (.rfind F) :: [] => .rins ⟨[a0, a1, a2, a3, a4, a5, a6, a7, a8, a9, a10, a11, a12], ref, key, i, high, 7, lv, 0, F, R0, by_, true, 0⟩ | _ => .bad
def rins8Ok (ps : List (EV U)) : Prop := ∃ a0 a1 a2 a3 a4 a5 a6 a7 a8 a9 a10 a11 a12 ref key i high lv w by_ : Int, ∃ F : FindSt, ps = [.i a0, .i a1, .i a2, .i a3, .i a4, .i a5, .i a6, .i a7, .i a8, .i a9, .i a10, .i a11, .i a12, .i ref, .i key, .i i, .i high, .i lv, .i w, .i by_, .u (.rfind F)] ∧ okI a0 a1 a2 a5 i high ∧ F.shape a2 ∧ F.line = 9 ∧ 0 ≤ lv ∧ lv < high
def rins8Obj (ps : List (EV U)) : U := match ps with | .i a0 :: .i a1 :: .i a2 :: .i a3 :: .i a4 :: .i a5 :: .i a6 :: .i a7 :: .i a8 :: .i a9 :: .i a10 :: .i a11 :: .i a12 :: .i ref :: .i key :: .i i :: .i high :: .i lv :: .i w :: .i by_ :: .u (.rfind F) :: [] => .rins ⟨[a0, a1, a2, a3, a4, a5, a6, a7, a8, a9, a10, a11, a12], ref, key, i, high, 8, lv, 0, F, R0, by_, true, 0⟩ | _ => .bad
def rins9Ok (ps : List (EV U)) : Prop := ∃ a0 a1 a2 a3 a4 a5 a6 a7 a8 a9 a10 a11 a12 ref key i high lv w by_ : Int, ∃ F : FindSt, ps = [.i a0, .i a1, .i a2, .i a3, .i a4, .i a5, .i a6, .i a7, .i a8, .i a9, .i a10, .i a11, .i a12, .i ref, .i key, .i i, .i high, .i lv, .i w, .i by_, .u (.rfind F)] ∧ okI a0 a1 a2 a5 i high
def rins9Obj (ps : List (EV U)) : U := match ps with | .i a0 :: .i a1 :: .i a2 :: .i a3 :: .i a4 :: .i a5 :: .i a6 :: .i a7 :: .i a8 :: .i a9 :: .i a10 :: .i a11 :: .i a12 :: .i ref :: .i key :: .i i :: .i high :: .i lv :: .i w :: .i by_ :: .u (.rfind F) :: [] => .rins ⟨[a0, a1, a2, a3, a4, a5, a6, a7, a8, a9, a10, a11, a12], ref, key, i, high, 9, 0, 0, F0, R0, by_, true, 0⟩ | _ => .bad
def rins10Ok (ps : List (EV U)) : Prop := ∃ a0 a1 a2 a3 a4 a5 a6 a7 a8 a9 a10 a11 a12 ref key i high lv w by_ : Int, ∃ F : FindSt, ps = [.i a0, .i a1, .i a2, .i a3, .i a4, .i a5, .i a6, .i a7, .i a8, .i a9, .i a10, .i a11, .i a12, .i ref, .i key, .i i, .i high, .i lv, .i w, .i by_, .u (.rfind F)] ∧ okI a0 a1 a2 a5 i high ∧ F.shape a2
def rins10Obj (ps : List (EV U)) : U := match ps with | .i a0 :: .i a1 :: .i a2 :: .i a3 :: .i a4 :: .i a5 :: .i a6 :: .i a7 :: .i a8 :: .i a9 :: .i a10 :: .i a11 :: .i a12 :: .i ref :: .i key :: .i i :: .i high :: .i lv :: .i w :: .i by_ :: .u (.rfind F) :: [] => .rins ⟨[a0, a1, a2, a3, a4, a5, a6, a7, a8, a9, a10, a11, a12], ref, key, i, high, 10, 0, 0, F, R0, by_, true, 0⟩ | _ => .bad
def rins11Ok (ps : List (EV U)) : Prop := ∃ a0 a1 a2 a3 a4 a5 a6 a7 a8 a9 a10 a11 a12 ref key i high lv w by_ : Int, ∃ F : FindSt, ps = [.i a0, .i a1, .i a2, .i a3, .i a4, .i a5, .i a6, .i a7, .i a8, .i a9, .i a10, .i a11, .i a12, .i ref, .i key, .i i, .i high, .i lv, .i w, .i by_, .u (.rfind F)] ∧ okI a0 a1 a2 a5 i high
def rins11Obj (ps : List (EV U)) : U := match ps with | .i a0 :: .i a1 :: .i a2 :: .i a3 :: .i a4 :: .i a5 :: .i a6 :: .i a7 :: .i a8 :: .i a9 :: .i a10 :: .i a11 :: .i a12 :: .i ref :: .i key :: .i i :: .i high :: .i lv :: .i w :: .i by_ :: .u (.rfind F) :: [] => .rins ⟨[a0, a1, a2, a3, a4, a5, a6, a7, a8, a9, a10, a11, a12], ref, key, i, high, 11, 0, 0, F0, R0, by_, true, 0⟩ | _ => .bad
def rins12Ok (ps : List (EV U)) : Prop := ∃ a0 a1 a2 a3 a4 a5 a6 a7 a8 a9 a10 a11 a12 ref key i high lv w by_ : Int, ∃ F : FindSt, ∃ Rr : RetSt, ps = [.i a0, .i a1, .i a2, .i a3, .i a4, .i a5, .i a6, .i a7, .i a8, .i a9, .i a10, .i a11, .i a12, .i ref, .i key, .i i, .i high, .i lv, .i w, .i by_, .u (.rfind F), .u (.rret Rr)] ∧ okI a0 a1 a2 a5 i high
def rins12Obj (ps : List (EV U)) : U := match ps with | .i a0 :: .i a1 :: .i a2 :: .i a3 :: .i a4 :: .i a5 :: .i a6 :: .i a7 :: .i a8 :: .i a9 :: .i a10 :: .i a11 :: .i a12 :: .i ref :: .i key :: .i i :: .i high :: .i lv :: .i w :: .i by_ :: .u (.rfind F) :: .u (.rret Rr) :: [] => .rins ⟨[a0, a1, a2, a3, a4, a5, a6, a7, a8, a9, a10, a11, a12], ref, key, i, high, 12, 0, 0, F0, Rr, by_, true, 0⟩ | _ => .bad
def rinsROk (ps : List (EV U)) : Prop := ∃ e : Int, ps = [.i e] ∧ e ≠ 0
def rinsRObj (ps : List (EV U)) : U := match ps with | .i e :: [] => .rins ⟨[], 0, 0, 0, 0, 0, 0, 0, F0, R0, 0, false, e⟩ | _ => .bad
def rinsEOk (ps : List (EV U)) : Prop := ∃ a0 a1 a2 a3 a4 a5 a6 a7 a8 a9 a10 a11 a12 ref key i high lv w by_ : Int, ∃ F : FindSt, ps = [.i a0, .i a1, .i a2, .i a3, .i a4, .i a5, .i a6, .i a7, .i a8, .i a9, .i a10, .i a11, .i a12, .i ref, .i key, .i i, .i high, .i lv, .i w, .i by_, .u (.rfind F)] ∧ True
def rinsEObj (ps : List (EV U)) : U := match ps with | .i a0 :: .i a1 :: .i a2 :: .i a3 :: .i a4 :: .i a5 :: .i a6 :: .i a7 :: .i a8 :: .i a9 :: .i a10 :: .i a11 :: .i a12 :: .i ref :: .i key :: .i i :: .i high :: .i lv :: .i w :: .i by_ :: .u (.rfind F) :: [] => .rins ⟨[], 0, 0, 0, 0, 0, 0, 0, F0, R0, by_, true, 0⟩ | _ => .bad
def rinsGOk (ps : List (EV U)) : Prop := ∃ a0 a1 a2 a3 a4 a5 a6 a7 a8 a9 a10 a11 a12 ref key i high lv w by_ : Int, ∃ F : FindSt, ∃ Rr : RetSt, ps = [.i a0, .i a1, .i a2, .i a3, .i a4, .i a5, .i a6, .i a7, .i a8, .i a9, .i a10, .i a11, .i a12, .i ref, .i key, .i i, .i high, .i lv, .i w, .i by_, .u (.rfind F), .u (.rret Rr)] ∧ True
def rinsGObj (ps : List (EV U)) : U := match ps with | .i a0 :: .i a1 :: .i a2 :: .i a3 :: .i a4 :: .i a5 :: .i a6 :: .i a7 :: .i a8 :: .i a9 :: .i a10 :: .i a11 :: .i a12 :: .i ref :: .i key :: .i i :: .i high :: .i lv :: .i w :: .i by_ :: .u (.rfind F) :: .u (.rret Rr) :: [] => .rins ⟨[], 0, 0, 0, 0, 0, 0, 0, F0, R0, by_, true, 0⟩ | _ => .bad
def iV : Nat → Nat → List SV → List SV
 | _, 0, r => r
 | a, n + 1, r => .int .i64 (.var a) :: iV (a + 1) n r
def memT : ObjT U := { nv := 8, hp := [.cells [.ptr 1 0, .int .i64 (.var 1), .int .i64 (.var 2), .int .i64 (.var 3), .int .u64 (.var 4), .int .u64 (.var 5), .bool (.var 6), .int .i64 (.var 7)] 150, .row .u64 148 0], isNil := false, ok := memOk, obj := memObj }
def memNilT : ObjT U := { nv := 0, hp := [], isNil := true, ok := fun ps => ps = [], obj := fun _ => .memNil }
def memZeroT : ObjT U := { nv := 0, hp := [.cells [.nilp, .int .i64 (.lit 0), .int .i64 (.lit 0), .int .i64 (.lit 0), .int .u64 (.lit 0), .int .u64 (.lit 0), .bool (.lit false), .int .i64 (.lit 0)] 150], isNil := false, ok := fun ps => ps = [], obj := fun _ => .memZero }
def rmemT : ObjT U := { nv := 8, hp := [.cells [.slice 1 (.var 1) (.var 1), .int .i64 (.var 2), .int .i64 (.var 3), .int .u64 (.var 4), .int .u64 (.var 5), .bool (.var 6), .int .i64 (.var 7)] 177, .row .u64 85 0], isNil := false, ok := rmemOk, obj := rmemObj }
def rmemNilT : ObjT U := { nv := 0, hp := [], isNil := true, ok := fun ps => ps = [], obj := fun _ => .rmemNil }
def find10 : ObjT U := { nv := 23, hp := [.cells (.int .i64 (.var 0) :: .int .i64 (.var 1) :: .int .i64 (.lit 1) :: iV 2 10 [.int .u64 (.var 12), .int .i64 (.var 13), .int .i64 (.lit 0), .int .i64 (.var 14), .int .u64 (.var 15), .int .u64 (.var 16), .int .u64 (.var 17), .slice 1 (.lit 1) (.lit 1), .int .u64 (.var 18), .bool (.lit true), .int .i64 (.lit 0)]) 286, .cells [.int .i64 (.var 19), .int .i64 (.var 20), .int .u64 (.var 21), .int .u64 (.var 22)] 283], isNil := false, ok := find10Ok, obj := find10Obj }
def find20 : ObjT U := { nv := 27, hp := [.cells (.int .i64 (.var 0) :: .int .i64 (.var 1) :: .int .i64 (.lit 2) :: iV 2 10 [.int .u64 (.var 12), .int .i64 (.var 13), .int .i64 (.lit 0), .int .i64 (.var 14), .int .u64 (.var 15), .int .u64 (.var 16), .int .u64 (.var 17), .slice 1 (.lit 2) (.lit 2), .int .u64 (.var 18), .bool (.lit true), .int .i64 (.lit 0)]) 286, .cells [.int .i64 (.var 19), .int .i64 (.var 20), .int .u64 (.var 21), .int .u64 (.var 22), .int .i64 (.var 23), .int .i64 (.var 24), .int .u64 (.var 25), .int .u64 (.var 26)] 283], isNil := false, ok := find20Ok, obj := find20Obj }
def find21 : ObjT U := { nv := 27, hp := [.cells (.int .i64 (.var 0) :: .int .i64 (.var 1) :: .int .i64 (.lit 2) :: iV 2 10 [.int .u64 (.var 12), .int .i64 (.var 13), .int .i64 (.lit 1), .int .i64 (.var 14), .int .u64 (.var 15), .int .u64 (.var 16), .int .u64 (.var 17), .slice 1 (.lit 2) (.lit 2), .int .u64 (.var 18), .bool (.lit true), .int .i64 (.lit 0)]) 286, .cells [.int .i64 (.var 19), .int .i64 (.var 20), .int .u64 (.var 21), .int .u64 (.var 22), .int .i64 (.var 23), .int .i64 (.var 24), .int .u64 (.var 25), .int .u64 (.var 26)] 283], isNil := false, ok := find21Ok, obj := find21Obj }
def find30 : ObjT U := { nv := 31, hp := [.cells (.int .i64 (.var 0) :: .int .i64 (.var 1) :: .int .i64 (.lit 3) :: iV 2 10 [.int .u64 (.var 12), .int .i64 (.var 13), .int .i64 (.lit 0), .int .i64 (.var 14), .int .u64 (.var 15), .int .u64 (.var 16), .int .u64 (.var 17), .slice 1 (.lit 3) (.lit 3), .int .u64 (.var 18), .bool (.lit true), .int .i64 (.lit 0)]) 286, .cells [.int .i64 (.var 19), .int .i64 (.var 20), .int .u64 (.var 21), .int .u64 (.var 22), .int .i64 (.var 23), .int .i64 (.var 24), .int .u64 (.var 25), .int .u64 (.var 26), .int .i64 (.var 27), .int .i64 (.var 28), .int .u64 (.var 29), .int .u64 (.var 30)] 283], isNil := false, ok := find30Ok, obj := find30Obj }
def find31 : ObjT U := { nv := 31, hp := [.cells (.int .i64 (.var 0) :: .int .i64 (.var 1) :: .int .i64 (.lit 3) :: iV 2 10 [.int .u64 (.var 12), .int .i64 (.var 13), .int .i64 (.lit 1), .int .i64 (.var 14), .int .u64 (.var 15), .int .u64 (.var 16), .int .u64 (.var 17), .slice 1 (.lit 3) (.lit 3), .int .u64 (.var 18), .bool (.lit true), .int .i64 (.lit 0)]) 286, .cells [.int .i64 (.var 19), .int .i64 (.var 20), .int .u64 (.var 21), .int .u64 (.var 22), .int .i64 (.var 23), .int .i64 (.var 24), .int .u64 (.var 25), .int .u64 (.var 26), .int .i64 (.var 27), .int .i64 (.var 28), .int .u64 (.var 29), .int .u64 (.var 30)] 283], isNil := false, ok := find31Ok, obj := find31Obj }
def find32 : ObjT U := { nv := 31, hp := [.cells (.int .i64 (.var 0) :: .int .i64 (.var 1) :: .int .i64 (.lit 3) :: iV 2 10 [.int .u64 (.var 12), .int .i64 (.var 13), .int .i64 (.lit 2), .int .i64 (.var 14), .int .u64 (.var 15), .int .u64 (.var 16), .int .u64 (.var 17), .slice 1 (.lit 3) (.lit 3), .int .u64 (.var 18), .bool (.lit true), .int .i64 (.lit 0)]) 286, .cells [.int .i64 (.var 19), .int .i64 (.var 20), .int .u64 (.var 21), .int .u64 (.var 22), .int .i64 (.var 23), .int .i64 (.var 24), .int .u64 (.var 25), .int .u64 (.var 26), .int .i64 (.var 27), .int .i64 (.var 28), .int .u64 (.var 29), .int .u64 (.var 30)] 283], isNil := false, ok := find32Ok, obj := find32Obj }
def find40 : ObjT U := { nv := 35, hp := [.cells (.int .i64 (.var 0) :: .int .i64 (.var 1) :: .int .i64 (.lit 4) :: iV 2 10 [.int .u64 (.var 12), .int .i64 (.var 13), .int .i64 (.lit 0), .int .i64 (.var 14), .int .u64 (.var 15), .int .u64 (.var 16), .int .u64 (.var 17), .slice 1 (.lit 4) (.lit 4), .int .u64 (.var 18), .bool (.lit true), .int .i64 (.lit 0)]) 286, .cells [.int .i64 (.var 19), .int .i64 (.var 20), .int .u64 (.var 21), .int .u64 (.var 22), .int .i64 (.var 23), .int .i64 (.var 24), .int .u64 (.var 25), .int .u64 (.var 26), .int .i64 (.var 27), .int .i64 (.var 28), .int .u64 (.var 29), .int .u64 (.var 30), .int .i64 (.var 31), .int .i64 (.var 32), .int .u64 (.var 33), .int .u64 (.var 34)] 283], isNil := false, ok := find40Ok, obj := find40Obj }
def find41 : ObjT U := { nv := 35, hp := [.cells (.int .i64 (.var 0) :: .int .i64 (.var 1) :: .int .i64 (.lit 4) :: iV 2 10 [.int .u64 (.var 12), .int .i64 (.var 13), .int .i64 (.lit 1), .int .i64 (.var 14), .int .u64 (.var 15), .int .u64 (.var 16), .int .u64 (.var 17), .slice 1 (.lit 4) (.lit 4), .int .u64 (.var 18), .bool (.lit true), .int .i64 (.lit 0)]) 286, .cells [.int .i64 (.var 19), .int .i64 (.var 20), .int .u64 (.var 21), .int .u64 (.var 22), .int .i64 (.var 23), .int .i64 (.var 24), .int .u64 (.var 25), .int .u64 (.var 26), .int .i64 (.var 27), .int .i64 (.var 28), .int .u64 (.var 29), .int .u64 (.var 30), .int .i64 (.var 31), .int .i64 (.var 32), .int .u64 (.var 33), .int .u64 (.var 34)] 283], isNil := false, ok := find41Ok, obj := find41Obj }
def find42 : ObjT U := { nv := 35, hp := [.cells (.int .i64 (.var 0) :: .int .i64 (.var 1) :: .int .i64 (.lit 4) :: iV 2 10 [.int .u64 (.var 12), .int .i64 (.var 13), .int .i64 (.lit 2), .int .i64 (.var 14), .int .u64 (.var 15), .int .u64 (.var 16), .int .u64 (.var 17), .slice 1 (.lit 4) (.lit 4), .int .u64 (.var 18), .bool (.lit true), .int .i64 (.lit 0)]) 286, .cells [.int .i64 (.var 19), .int .i64 (.var 20), .int .u64 (.var 21), .int .u64 (.var 22), .int .i64 (.var 23), .int .i64 (.var 24), .int .u64 (.var 25), .int .u64 (.var 26), .int .i64 (.var 27), .int .i64 (.var 28), .int .u64 (.var 29), .int .u64 (.var 30), .int .i64 (.var 31), .int .i64 (.var 32), .int .u64 (.var 33), .int .u64 (.var 34)] 283], isNil := false, ok := find42Ok, obj := find42Obj }
def find43 : ObjT U := { nv := 35, hp := [.cells (.int .i64 (.var 0) :: .int .i64 (.var 1) :: .int .i64 (.lit 4) :: iV 2 10 [.int .u64 (.var 12), .int .i64 (.var 13), .int .i64 (.lit 3), .int .i64 (.var 14), .int .u64 (.var 15), .int .u64 (.var 16), .int .u64 (.var 17), .slice 1 (.lit 4) (.lit 4), .int .u64 (.var 18), .bool (.lit true), .int .i64 (.lit 0)]) 286, .cells [.int .i64 (.var 19), .int .i64 (.var 20), .int .u64 (.var 21), .int .u64 (.var 22), .int .i64 (.var 23), .int .i64 (.var 24), .int .u64 (.var 25), .int .u64 (.var 26), .int .i64 (.var 27), .int .i64 (.var 28), .int .u64 (.var 29), .int .u64 (.var 30), .int .i64 (.var 31), .int .i64 (.var 32), .int .u64 (.var 33), .int .u64 (.var 34)] 283], isNil := false, ok := find43Ok, obj := find43Obj }
def findNilT : ObjT U := { nv := 0, hp := [], isNil := true, ok := fun ps => ps = [], obj := fun _ => .findNil }
def rfindT : ObjT U := { nv := 24, hp := [.cells (iV 0 13 [.int .u64 (.var 13), .int .i64 (.var 14), .int .i64 (.var 15), .int .i64 (.var 16), .int .u64 (.var 17), .int .u64 (.var 18), .int .u64 (.var 19), .slice 1 (.var 2) (.var 2), .slice 2 (.var 2) (.var 2), .slice 3 (.var 2) (.var 2), .int .u64 (.var 20), .int .i64 (.lit 0)]) 277, .row .i64 3 21, .row .u64 85 22, .row .u64 85 23], isNil := false, ok := rfindOk, obj := rfindObj }
def rfindNilT : ObjT U := { nv := 0, hp := [], isNil := true, ok := fun ps => ps = [], obj := fun _ => .rfindNil }
def retA : ObjT U := { nv := 11, hp := [.cells (.func (.func 75) [.ptr 0 0] [] :: .bool (.lit true) :: .int .i64 (.lit 0) :: iV 0 11 [.nilp]) 41], isNil := false, ok := retAOk, obj := retAObj }
def retB1 : ObjT U := { nv := 14, hp := [.cells (.func (.func 143) [.ptr 0 0] [] :: .bool (.lit true) :: .int .i64 (.lit 0) :: iV 0 11 [.ptr 1 0]) 41, .cells [.int .i64 (.var 11), .int .i64 (.var 1), .int .i64 (.var 2), .int .u64 (.var 12), .int .i64 (.var 10), .int .i64 (.var 13), .bool (.lit true), .bool (.lit false), .int .i64 (.lit 0), .func (.func 238) [] []] 306], isNil := false, ok := retB1Ok, obj := retB1Obj }
def retB2 : ObjT U := { nv := 14, hp := [.cells (.func (.func 143) [.ptr 0 0] [] :: .bool (.lit true) :: .int .i64 (.lit 0) :: iV 0 11 [.ptr 1 0]) 41, .cells [.int .i64 (.var 11), .int .i64 (.var 1), .int .i64 (.var 2), .int .u64 (.var 12), .int .i64 (.var 10), .int .i64 (.var 13), .bool (.lit true), .bool (.lit false), .int .i64 (.lit 0), .func (.func 289) [] []] 306], isNil := false, ok := retB2Ok, obj := retB2Obj }
def retB3 : ObjT U := { nv := 14, hp := [.cells (.func (.func 143) [.ptr 0 0] [] :: .bool (.lit true) :: .int .i64 (.lit 0) :: iV 0 11 [.ptr 1 0]) 41, .cells [.int .i64 (.var 11), .int .i64 (.var 1), .int .i64 (.var 2), .int .u64 (.var 12), .int .i64 (.var 10), .int .i64 (.var 13), .bool (.lit true), .bool (.lit false), .int .i64 (.lit 0), .func (.func 313) [] []] 306], isNil := false, ok := retB3Ok, obj := retB3Obj }
def retC : ObjT U := { nv := 14, hp := [.cells (.nilf :: .bool (.lit true) :: .int .i64 (.lit 0) :: iV 0 11 [.ptr 1 0]) 41, .cells [.int .i64 (.var 11), .int .i64 (.var 1), .int .i64 (.var 2), .int .u64 (.var 12), .int .i64 (.var 10), .int .i64 (.var 13), .bool (.lit true), .bool (.lit true), .int .i64 (.lit 0), .func (.func 238) [] []] 306], isNil := false, ok := retCOk, obj := retCObj }
def retR : ObjT U := { nv := 12, hp := [.cells (.nilf :: .bool (.lit true) :: .int .i64 (.var 11) :: iV 0 11 [.nilp]) 41], isNil := false, ok := retROk, obj := retRObj }
def retNilT : ObjT U := { nv := 0, hp := [], isNil := true, ok := fun ps => ps = [], obj := fun _ => .retNil }
def rretA : ObjT U := { nv := 11, hp := [.cells (iV 0 11 [.nilp, .int .i64 (.lit 0), .int .i64 (.lit 0)]) 263], isNil := false, ok := rretAOk, obj := rretAObj }
def rretB : ObjT U := { nv := 15, hp := [.cells (iV 0 11 [.ptr 1 0, .int .i64 (.var 14), .int .i64 (.lit 0)]) 263, .cells [.int .i64 (.var 11), .int .i64 (.var 1), .int .i64 (.var 2), .int .i64 (.var 12), .int .u64 (.var 13), .int .i64 (.var 10), .int .i64 (.lit 0)] 323], isNil := false, ok := rretBOk, obj := rretBObj }
def rretR : ObjT U := { nv := 12, hp := [.cells (iV 0 11 [.nilp, .int .i64 (.lit 9), .int .i64 (.var 11)]) 263], isNil := false, ok := rretROk, obj := rretRObj }
def rretNilT : ObjT U := { nv := 0, hp := [], isNil := true, ok := fun ps => ps = [], obj := fun _ => .rretNil }
def ins1 : ObjT U := { nv := 21, hp := [.cells (iV 0 13 [.bool (.lit true), .bool (.lit false), .int .u64 (.var 13), .int .u64 (.var 14), .int .i64 (.var 15), .int .i64 (.var 16), .int .i64 (.lit 1), .int .i64 (.var 17), .int .u64 (.var 18), .hnd 1, .nilp, .int .u64 (.var 19), .int .i64 (.lit 0)]) 102, .abs 20], isNil := false, ok := ins1Ok, obj := ins1Obj }
def ins2 : ObjT U := { nv := 21, hp := [.cells (iV 0 13 [.bool (.lit true), .bool (.lit false), .int .u64 (.var 13), .int .u64 (.var 14), .int .i64 (.var 15), .int .i64 (.var 16), .int .i64 (.lit 2), .int .i64 (.var 17), .int .u64 (.var 18), .hnd 1, .nilp, .int .u64 (.var 19), .int .i64 (.lit 0)]) 102, .abs 20], isNil := false, ok := ins2Ok, obj := ins2Obj }
def ins3 : ObjT U := { nv := 21, hp := [.cells (iV 0 13 [.bool (.lit true), .bool (.lit false), .int .u64 (.var 13), .int .u64 (.var 14), .int .i64 (.var 15), .int .i64 (.var 16), .int .i64 (.lit 3), .int .i64 (.var 17), .int .u64 (.var 18), .hnd 1, .nilp, .int .u64 (.var 19), .int .i64 (.lit 0)]) 102, .abs 20], isNil := false, ok := ins3Ok, obj := ins3Obj }
def ins4 : ObjT U := { nv := 21, hp := [.cells (iV 0 13 [.bool (.lit true), .bool (.lit true), .int .u64 (.var 13), .int .u64 (.var 14), .int .i64 (.var 15), .int .i64 (.var 16), .int .i64 (.lit 4), .int .i64 (.var 17), .int .u64 (.var 18), .hnd 1, .nilp, .int .u64 (.var 19), .int .i64 (.lit 0)]) 102, .abs 20], isNil := false, ok := ins4Ok, obj := ins4Obj }
def ins5 : ObjT U := { nv := 20, hp := [.cells (iV 0 13 [.bool (.lit true), .bool (.lit true), .int .u64 (.var 13), .int .u64 (.var 14), .int .i64 (.var 15), .int .i64 (.var 16), .int .i64 (.lit 5), .int .i64 (.var 17), .int .u64 (.var 18), .hnd 1, .nilp, .int .u64 (.var 13), .int .i64 (.lit 0)]) 102, .abs 19], isNil := false, ok := ins5Ok, obj := ins5Obj }
def ins6 : ObjT U := { nv := 21, hp := [.cells (iV 0 13 [.bool (.lit true), .bool (.lit true), .int .u64 (.var 13), .int .u64 (.var 14), .int .i64 (.var 15), .int .i64 (.var 16), .int .i64 (.lit 6), .int .i64 (.var 17), .int .u64 (.var 18), .hnd 1, .nilp, .int .u64 (.var 19), .int .i64 (.lit 0)]) 102, .abs 20], isNil := false, ok := ins6Ok, obj := ins6Obj }
def ins7 : ObjT U := { nv := 21, hp := [.cells (iV 0 13 [.bool (.lit true), .bool (.lit true), .int .u64 (.var 13), .int .u64 (.var 14), .int .i64 (.var 15), .int .i64 (.var 16), .int .i64 (.lit 7), .int .i64 (.var 17), .int .u64 (.var 18), .hnd 1, .nilp, .int .u64 (.var 19), .int .i64 (.lit 0)]) 102, .abs 20], isNil := false, ok := ins7Ok, obj := ins7Obj }
def ins8 : ObjT U := { nv := 21, hp := [.cells (iV 0 13 [.bool (.lit true), .bool (.lit true), .int .u64 (.var 13), .int .u64 (.var 14), .int .i64 (.var 15), .int .i64 (.var 16), .int .i64 (.lit 8), .int .i64 (.var 17), .int .u64 (.var 18), .hnd 1, .nilp, .int .u64 (.var 19), .int .i64 (.lit 0)]) 102, .abs 20], isNil := false, ok := ins8Ok, obj := ins8Obj }
def ins9 : ObjT U := { nv := 21, hp := [.cells (iV 0 13 [.bool (.lit true), .bool (.lit true), .int .u64 (.var 13), .int .u64 (.var 14), .int .i64 (.var 15), .int .i64 (.var 16), .int .i64 (.lit 9), .int .i64 (.var 17), .int .u64 (.var 18), .hnd 1, .nilp, .int .u64 (.var 19), .int .i64 (.lit 0)]) 102, .abs 20], isNil := false, ok := ins9Ok, obj := ins9Obj }
def ins10 : ObjT U := { nv := 21, hp := [.cells (iV 0 13 [.bool (.lit true), .bool (.lit true), .int .u64 (.var 13), .int .u64 (.var 14), .int .i64 (.var 15), .int .i64 (.var 16), .int .i64 (.lit 10), .int .i64 (.var 17), .int .u64 (.var 18), .hnd 1, .nilp, .int .u64 (.var 19), .int .i64 (.lit 0)]) 102, .abs 20], isNil := false, ok := ins10Ok, obj := ins10Obj }
def ins11 : ObjT U := { nv := 21, hp := [.cells (iV 0 13 [.bool (.lit true), .bool (.lit true), .int .u64 (.var 13), .int .u64 (.var 14), .int .i64 (.var 15), .int .i64 (.var 16), .int .i64 (.lit 11), .int .i64 (.var 17), .int .u64 (.var 18), .hnd 1, .nilp, .int .u64 (.var 19), .int .i64 (.lit 0)]) 102, .abs 20], isNil := false, ok := ins11Ok, obj := ins11Obj }
def ins12 : ObjT U := { nv := 22, hp := [.cells (iV 0 13 [.bool (.lit true), .bool (.lit true), .int .u64 (.var 13), .int .u64 (.var 14), .int .i64 (.var 15), .int .i64 (.var 16), .int .i64 (.lit 12), .int .i64 (.var 17), .int .u64 (.var 18), .hnd 1, .hnd 2, .int .u64 (.var 19), .int .i64 (.lit 0)]) 102, .abs 20, .abs 21], isNil := false, ok := ins12Ok, obj := ins12Obj }
def insR : ObjT U := { nv := 17, hp := [.cells (iV 0 13 [.bool (.lit true), .bool (.lit false), .int .u64 (.var 13), .int .u64 (.var 14), .int .i64 (.lit 0), .int .i64 (.var 15), .int .i64 (.lit 0), .int .i64 (.lit 0), .int .u64 (.lit 0), .nilp, .nilp, .int .u64 (.lit 0), .int .i64 (.var 16)]) 102], isNil := false, ok := insROk, obj := insRObj }
def insE : ObjT U := { nv := 21, hp := [.cells (iV 0 13 [.bool (.lit true), .bool (.lit true), .int .u64 (.var 13), .int .u64 (.var 14), .int .i64 (.var 15), .int .i64 (.var 16), .int .i64 (.lit 0), .int .i64 (.var 17), .int .u64 (.var 18), .hnd 1, .nilp, .int .u64 (.var 19), .int .i64 (.lit 0)]) 102, .abs 20], isNil := false, ok := insEOk, obj := insEObj }
def insG : ObjT U := { nv := 22, hp := [.cells (iV 0 13 [.bool (.lit true), .bool (.lit true), .int .u64 (.var 13), .int .u64 (.var 14), .int .i64 (.var 15), .int .i64 (.var 16), .int .i64 (.lit 0), .int .i64 (.var 17), .int .u64 (.var 18), .hnd 1, .hnd 2, .int .u64 (.var 19), .int .i64 (.lit 0)]) 102, .abs 20, .abs 21], isNil := false, ok := insGOk, obj := insGObj }
def insNilT : ObjT U := { nv := 0, hp := [], isNil := true, ok := fun ps => ps = [], obj := fun _ => .insNil }
def rins1 : ObjT U := { nv := 21, hp := [.cells (iV 0 13 [.int .u64 (.var 13), .int .u64 (.var 14), .int .i64 (.var 15), .int .i64 (.var 16), .hnd 1, .nilp, .int .i64 (.lit 1), .int .i64 (.var 17), .int .u64 (.var 18), .int .u64 (.var 19), .bool (.lit false), .int .i64 (.lit 0)]) 186, .abs 20], isNil := false, ok := rins1Ok, obj := rins1Obj }
def rins2 : ObjT U := { nv := 21, hp := [.cells (iV 0 13 [.int .u64 (.var 13), .int .u64 (.var 14), .int .i64 (.var 15), .int .i64 (.var 16), .hnd 1, .nilp, .int .i64 (.lit 2), .int .i64 (.var 17), .int .u64 (.var 18), .int .u64 (.var 19), .bool (.lit false), .int .i64 (.lit 0)]) 186, .abs 20], isNil := false, ok := rins2Ok, obj := rins2Obj }
def rins3 : ObjT U := { nv := 21, hp := [.cells (iV 0 13 [.int .u64 (.var 13), .int .u64 (.var 14), .int .i64 (.var 15), .int .i64 (.var 16), .hnd 1, .nilp, .int .i64 (.lit 3), .int .i64 (.var 17), .int .u64 (.var 18), .int .u64 (.var 19), .bool (.lit false), .int .i64 (.lit 0)]) 186, .abs 20], isNil := false, ok := rins3Ok, obj := rins3Obj }
def rins4 : ObjT U := { nv := 21, hp := [.cells (iV 0 13 [.int .u64 (.var 13), .int .u64 (.var 14), .int .i64 (.var 15), .int .i64 (.var 16), .hnd 1, .nilp, .int .i64 (.lit 4), .int .i64 (.var 17), .int .u64 (.var 18), .int .u64 (.var 19), .bool (.lit true), .int .i64 (.lit 0)]) 186, .abs 20], isNil := false, ok := rins4Ok, obj := rins4Obj }
def rins5 : ObjT U := { nv := 21, hp := [.cells (iV 0 13 [.int .u64 (.var 13), .int .u64 (.var 14), .int .i64 (.var 15), .int .i64 (.var 16), .hnd 1, .nilp, .int .i64 (.lit 5), .int .i64 (.var 17), .int .u64 (.var 18), .int .u64 (.var 19), .bool (.lit true), .int .i64 (.lit 0)]) 186, .abs 20], isNil := false, ok := rins5Ok, obj := rins5Obj }
def rins6 : ObjT U := { nv := 21, hp := [.cells (iV 0 13 [.int .u64 (.var 13), .int .u64 (.var 14), .int .i64 (.var 15), .int .i64 (.var 16), .hnd 1, .nilp, .int .i64 (.lit 6), .int .i64 (.var 17), .int .u64 (.var 18), .int .u64 (.var 19), .bool (.lit true), .int .i64 (.lit 0)]) 186, .abs 20], isNil := false, ok := rins6Ok, obj := rins6Obj }
def rins7 : ObjT U := { nv := 21, hp := [.cells (iV 0 13 [.int .u64 (.var 13), .int .u64 (.var 14), .int .i64 (.var 15), .int .i64 (.var 16), .hnd 1, .nilp, .int .i64 (.lit 61), .int .i64 (.var 17), .int .u64 (.var 18), .int .u64 (.var 19), .bool (.lit true), .int .i64 (.lit 0)]) 186, .abs 20], isNil := false, ok := rins7Ok, obj := rins7Obj }
def rins8 : ObjT U := { nv := 21, hp := [.cells (iV 0 13 [.int .u64 (.var 13), .int .u64 (.var 14), .int .i64 (.var 15), .int .i64 (.var 16), .hnd 1, .nilp, .int .i64 (.lit 62), .int .i64 (.var 17), .int .u64 (.var 18), .int .u64 (.var 19), .bool (.lit true), .int .i64 (.lit 0)]) 186, .abs 20], isNil := false, ok := rins8Ok, obj := rins8Obj }
def rins9 : ObjT U := { nv := 21, hp := [.cells (iV 0 13 [.int .u64 (.var 13), .int .u64 (.var 14), .int .i64 (.var 15), .int .i64 (.var 16), .hnd 1, .nilp, .int .i64 (.lit 7), .int .i64 (.var 17), .int .u64 (.var 18), .int .u64 (.var 19), .bool (.lit true), .int .i64 (.lit 0)]) 186, .abs 20], isNil := false, ok := rins9Ok, obj := rins9Obj }
def rins10 : ObjT U := { nv := 21, hp := [.cells (iV 0 13 [.int .u64 (.var 13), .int .u64 (.var 14), .int .i64 (.var 15), .int .i64 (.var 16), .hnd 1, .nilp, .int .i64 (.lit 8), .int .i64 (.var 17), .int .u64 (.var 18), .int .u64 (.var 19), .bool (.lit true), .int .i64 (.lit 0)]) 186, .abs 20], isNil := false, ok := rins10Ok, obj := rins10Obj }
def rins11 : ObjT U := { nv := 21, hp := [.cells (iV 0 13 [.int .u64 (.var 13), .int .u64 (.var 14), .int .i64 (.var 15), .int .i64 (.var 16), .hnd 1, .nilp, .int .i64 (.lit 9), .int .i64 (.var 17), .int .u64 (.var 18), .int .u64 (.var 19), .bool (.lit true), .int .i64 (.lit 0)]) 186, .abs 20], isNil := false, ok := rins11Ok, obj := rins11Obj }
def rins12 : ObjT U := { nv := 22, hp := [.cells (iV 0 13 [.int .u64 (.var 13), .int .u64 (.var 14), .int .i64 (.var 15), .int .i64 (.var 16), .hnd 1, .hnd 2, .int .i64 (.lit 91), .int .i64 (.var 17), .int .u64 (.var 18), .int .u64 (.var 19), .bool (.lit true), .int .i64 (.lit 0)]) 186, .abs 20, .abs 21], isNil := false, ok := rins12Ok, obj := rins12Obj }
def rinsR : ObjT U := { nv := 1, hp := [.cells [.int .i64 (.lit 0), .int .i64 (.lit 0), .int .i64 (.lit 0), .int .i64 (.lit 0), .int .i64 (.lit 0), .int .i64 (.lit 0), .int .i64 (.lit 0), .int .i64 (.lit 0), .int .i64 (.lit 0), .int .i64 (.lit 0), .int .i64 (.lit 0), .int .i64 (.lit 0), .int .i64 (.lit 0), .int .u64 (.lit 0), .int .u64 (.lit 0), .int .i64 (.lit 0), .int .i64 (.lit 0), .nilp, .nilp, .int .i64 (.lit 99), .int .i64 (.lit 0), .int .u64 (.lit 0), .int .u64 (.lit 0), .bool (.lit false), .int .i64 (.var 0)] 186], isNil := false, ok := rinsROk, obj := rinsRObj }
def rinsE : ObjT U := { nv := 21, hp := [.cells (iV 0 13 [.int .u64 (.var 13), .int .u64 (.var 14), .int .i64 (.var 15), .int .i64 (.var 16), .hnd 1, .nilp, .int .i64 (.lit 99), .int .i64 (.var 17), .int .u64 (.var 18), .int .u64 (.var 19), .bool (.lit true), .int .i64 (.lit 0)]) 186, .abs 20], isNil := false, ok := rinsEOk, obj := rinsEObj }
def rinsG : ObjT U := { nv := 22, hp := [.cells (iV 0 13 [.int .u64 (.var 13), .int .u64 (.var 14), .int .i64 (.var 15), .int .i64 (.var 16), .hnd 1, .hnd 2, .int .i64 (.lit 99), .int .i64 (.var 17), .int .u64 (.var 18), .int .u64 (.var 19), .bool (.lit true), .int .i64 (.lit 0)]) 186, .abs 20, .abs 21], isNil := false, ok := rinsGOk, obj := rinsGObj }
def rinsNilT : ObjT U := { nv := 0, hp := [], isNil := true, ok := fun ps => ps = [], obj := fun _ => .rinsNil }
def objs : List (ObjT U) := [memT, memNilT, memZeroT, rmemT, rmemNilT, find10, find20, find21, find30, find31, find32, find40, find41, find42, find43, findNilT, rfindT, rfindNilT, retA, retB1, retB2, retB3, retC, retR, retNilT, rretA, rretB, rretR, rretNilT, ins1, ins2, ins3, ins4, ins5, ins6, ins7, ins8, ins9, ins10, ins11, ins12, insR, insE, insG, insNilT, rins1, rins2, rins3, rins4, rins5, rins6, rins7, rins8, rins9, rins10, rins11, rins12, rinsR, rinsE, rinsG, rinsNilT]
theorem objs_all {p : Nat → ObjT U → Prop} (h0 : p 0 memT) (h1 : p 1 memNilT) (h2 : p 2 memZeroT) (h3 : p 3 rmemT) (h4 : p 4 rmemNilT) (h5 : p 5 find10) (h6 : p 6 find20) (h7 : p 7 find21) (h8 : p 8 find30) (h9 : p 9 find31) (h10 : p 10 find32) (h11 : p 11 find40) (h12 : p 12 find41) (h13 : p 13 find42) (h14 : p 14 find43) (h15 : p 15 findNilT) (h16 : p 16 rfindT) (h17 : p 17 rfindNilT) (h18 : p 18 retA) (h19 : p 19 retB1) (h20 : p 20 retB2) (h21 : p 21 retB3) (h22 : p 22 retC) (h23 : p 23 retR) (h24 : p 24 retNilT) (h25 : p 25 rretA) (h26 : p 26 rretB) (h27 : p 27 rretR) (h28 : p 28 rretNilT) (h29 : p 29 ins1) (h30 : p 30 ins2) (h31 : p 31 ins3) (h32 : p 32 ins4) (h33 : p 33 ins5) (h34 : p 34 ins6) (h35 : p 35 ins7) (h36 : p 36 ins8) (h37 : p 37 ins9) (h38 : p 38 ins10) (h39 : p 39 ins11) (h40 : p 40 ins12) (h41 : p 41 insR) (h42 : p 42 insE) (h43 : p 43 insG) (h44 : p 44 insNilT) (h45 : p 45 rins1) (h46 : p 46 rins2) (h47 : p 47 rins3) (h48 : p 48 rins4) (h49 : p 49 rins5) (h50 : p 50 rins6) (h51 : p 51 rins7) (h52 : p 52 rins8) (h53 : p 53 rins9) (h54 : p 54 rins10) (h55 : p 55 rins11) (h56 : p 56 rins12) (h57 : p 57 rinsR) (h58 : p 58 rinsE) (h59 : p 59 rinsG) (h60 : p 60 rinsNilT) : ∀ (t : Nat) (T : ObjT U), objs[t]? = some T → p t T := by
 intro t T h
 match t, h with
 | 0, h => cases h; exact h0
 | 1, h => cases h; exact h1
 | 2, h => cases h; exact h2
 | 3, h => cases h; exact h3
 | 4, h => cases h; exact h4
 | 5, h => cases h; exact h5
 | 6, h => cases h; exact h6
 | 7, h => cases h; exact h7
 | 8, h => cases h; exact h8
 | 9, h => cases h; exact h9
 | 10, h => cases h; exact h10
 | 11, h => cases h; exact h11
 | 12, h => cases h; exact h12
 | 13, h => cases h; exact h13
 | 14, h => cases h; exact h14
 | 15, h => cases h; exact h15
 | 16, h => cases h; exact h16
 | 17, h => cases h; exact h17
 | 18, h => cases h; exact h18
 | 19, h => cases h; exact h19
 | 20, h => cases h; exact h20
 | 21, h => cases h; exact h21
 | 22, h => cases h; exact h22
 | 23, h => cases h; exact h23
 | 24, h => cases h; exact h24
 | 25, h => cases h; exact h25
 | 26, h => cases h; exact h26
 | 27, h => cases h; exact h27
 | 28, h => cases h; exact h28
 | 29, h => cases h; exact h29
 | 30, h => cases h; exact h30
 | 31, h => cases h; exact h31
 | 32, h => cases h; exact h32
 | 33, h => cases h; exact h33
 | 34, h => cases h; exact h34
 | 35, h => cases h; exact h35
 | 36, h => cases h; exact h36
 | 37, h => cases h; exact h37
 | 38, h => cases h; exact h38
 | 39, h => cases h; exact h39
 | 40, h => cases h; exact h40
 | 41, h => cases h; exact h41
 | 42, h => cases h; exact h42
 | 43, h => cases h; exact h43
 | 44, h => cases h; exact h44
 | 45, h => cases h; exact h45
 | 46, h => cases h; exact h46
 | 47, h => cases h; exact h47
 | 48, h => cases h; exact h48
 | 49, h => cases h; exact h49
 | 50, h => cases h; exact h50
 | 51, h => cases h; exact h51
 | 52, h => cases h; exact h52
 | 53, h => cases h; exact h53
 | 54, h => cases h; exact h54
 | 55, h => cases h; exact h55
 | 56, h => cases h; exact h56
 | 57, h => cases h; exact h57
 | 58, h => cases h; exact h58
 | 59, h => cases h; exact h59
 | 60, h => cases h; exact h60
 | t + 61, h => cases h
theorem objsOk : ObjsOk objs := by
 refine ⟨objs_all ?_ ?_ ?_ ?_ ?_ ?_ ?_ ?_ ?_ ?_ ?_ ?_ ?_ ?_ ?_ ?_ ?_ ?_ ?_ ?_ ?_ ?_ ?_ ?_ ?_ ?_ ?_ ?_ ?_ ?_ ?_ ?_ ?_ ?_ ?_ ?_ ?_ ?_ ?_ ?_ ?_ ?_ ?_ ?_ ?_ ?_ ?_ ?_ ?_ ?_ ?_ ?_ ?_ ?_ ?_ ?_ ?_ ?_ ?_ ?_ ?_, objs_all ?_ ?_ ?_ ?_ ?_ ?_ ?_ ?_ ?_ ?_ ?_ ?_ ?_ ?_ ?_ ?_ ?_ ?_ ?_ ?_ ?_ ?_ ?_ ?_ ?_ ?_ ?_ ?_ ?_ ?_ ?_ ?_ ?_ ?_ ?_ ?_ ?_ ?_ ?_ ?_ ?_ ?_ ?_ ?_ ?_ ?_ ?_ ?_ ?_ ?_ ?_ ?_ ?_ ?_ ?_ ?_ ?_ ?_ ?_ ?_ ?_, objs_all ?_ ?_ ?_ ?_ ?_ ?_ ?_ ?_ ?_ ?_ ?_ ?_ ?_ ?_ ?_ ?_ ?_ ?_ ?_ ?_ ?_ ?_ ?_ ?_ ?_ ?_ ?_ ?_ ?_ ?_ ?_ ?_ ?_ ?_ ?_ ?_ ?_ ?_ ?_ ?_ ?_ ?_ ?_ ?_ ?_ ?_ ?_ ?_ ?_ ?_ ?_ ?_ ?_ ?_ ?_ ?_ ?_ ?_ ?_ ?_ ?_, objs_all ?_ ?_ ?_ ?_ ?_ ?_ ?_ ?_ ?_ ?_ ?_ ?_ ?_ ?_ ?_ ?_ ?_ ?_ ?_ ?_ ?_ ?_ ?_ ?_ ?_ ?_ ?_ ?_ ?_ ?_ ?_ ?_ ?_ ?_ ?_ ?_ ?_ ?_ ?_ ?_ ?_ ?_ ?_ ?_ ?_ ?_ ?_ ?_ ?_ ?_ ?_ ?_ ?_ ?_ ?_ ?_ ?_ ?_ ?_ ?_ ?_⟩
 all_goals first
  | (rintro ps ⟨l, s, k, a, o, n, h, N, rfl, _⟩; rfl)
  | (rintro ps ⟨_, rfl, _⟩; rfl)
  | (rintro ps ⟨_, _, _, _, _, _, _, _, _, _, _, rfl, _⟩; rfl)
  | (rintro ps ⟨_, _, _, _, _, _, _, _, _, _, _, _, rfl, _⟩; rfl)
  | (rintro ps ⟨_, _, _, _, _, _, _, _, _, _, _, _, _, _, rfl, _⟩; rfl)
  | (rintro ps ⟨_, _, _, _, _, _, _, _, _, _, _, _, _, _, _, rfl, _⟩; rfl)
  | (rintro ps ⟨_, _, _, _, _, _, _, _, _, _, _, _, _, _, _, _, _, rfl, _⟩; rfl)
  | (rintro ps ⟨_, _, _, _, _, _, _, _, _, _, _, _, _, _, _, _, _, _, _, _, rfl, _⟩; rfl)
  | (rintro ps ⟨_, _, _, _, _, _, _, _, _, _, _, _, _, _, _, _, _, _, _, _, _, rfl, _⟩; rfl)
  | (rintro ps ⟨_, _, _, _, _, _, _, _, _, _, _, _, _, _, _, _, _, _, _, _, _, _, rfl, _⟩; rfl)
  | (rintro ps ⟨_, _, _, _, _, _, _, _, _, _, _, _, _, _, _, _, _, _, _, _, _, _, _, rfl, _⟩; rfl)
  | (rintro ps ⟨_, _, _, _, _, _, _, _, _, _, _, _, _, _, _, _, _, _, _, _, _, _, _, _, rfl, _⟩; rfl)
  | (rintro ps ⟨_, _, _, _, _, _, _, _, _, _, _, _, _, _, _, _, _, _, _, _, _, _, _, _, _, _, _, rfl, _⟩; rfl)
  | (rintro ps ⟨_, _, _, _, _, _, _, _, _, _, _, _, _, _, _, _, _, _, _, _, _, _, _, _, _, _, _, _, _, _, _, rfl, _⟩; rfl)
  | (rintro ps ⟨_, _, _, _, _, _, _, _, _, _, _, _, _, _, _, _, _, _, _, _, _, _, _, _, _, _, _, _, _, _, _, _, _, _, _, rfl, _⟩; rfl)
  | (rintro ps rfl; rfl)
  | (intro h; cases h; done)
  | (intro _; rfl)
  | (intro _; exact ⟨_, _, rfl⟩)
  | (intro n h hh; match n, hh with | 0, hh => cases hh; rfl | n + 1, hh => cases hh)
  | (intro n h hh; match n, hh with | 0, hh => cases hh; rfl | 1, hh => cases hh; rfl | n + 2, hh => cases hh)
  | (intro n h hh; match n, hh with | 0, hh => cases hh; rfl | 1, hh => cases hh; rfl | 2, hh => cases hh; rfl | n + 3, hh => cases hh)
  | (intro n h hh; match n, hh with | 0, hh => cases hh; rfl | 1, hh => cases hh; rfl | 2, hh => cases hh; rfl | 3, hh => cases hh; rfl | n + 4, hh => cases hh)
  | (intro n h hh; match n, hh with | 0, hh => cases hh; rfl | 1, hh => cases hh; rfl | 2, hh => cases hh; rfl | 3, hh => cases hh; rfl | 4, hh => cases hh; rfl | n + 5, hh => cases hh)
  | (intro n h hh; cases hh)
def kinds : List Nat := [1, 2, 3, 4, 5, 6, 6, 6, 6, 6, 6, 6, 6, 6, 6, 7, 8, 9, 10, 10, 10, 10, 10, 10, 11, 12, 12, 12, 13, 14, 14, 14, 14, 14, 14, 14, 14, 14, 14, 14, 14, 14, 14, 14, 15, 16, 16, 16, 16, 16, 16, 16, 16, 16, 16, 16, 16, 16, 16, 16, 17]
theorem kind_of : ∀ (t : Nat) (T : ObjT U), objs[t]? = some T → ∀ ps, T.ok ps → (T.obj ps).kind = kinds.getD t 0 := by
 refine objs_all ?_ ?_ ?_ ?_ ?_ ?_ ?_ ?_ ?_ ?_ ?_ ?_ ?_ ?_ ?_ ?_ ?_ ?_ ?_ ?_ ?_ ?_ ?_ ?_ ?_ ?_ ?_ ?_ ?_ ?_ ?_ ?_ ?_ ?_ ?_ ?_ ?_ ?_ ?_ ?_ ?_ ?_ ?_ ?_ ?_ ?_ ?_ ?_ ?_ ?_ ?_ ?_ ?_ ?_ ?_ ?_ ?_ ?_ ?_ ?_ ?_
 all_goals first
  | (rintro ps ⟨l, s, k, a, o, n, h, N, rfl, _⟩; rfl)
  | (rintro ps ⟨_, rfl, _⟩; rfl)
  | (rintro ps ⟨_, _, _, _, _, _, _, _, _, _, _, rfl, _⟩; rfl)
  | (rintro ps ⟨_, _, _, _, _, _, _, _, _, _, _, _, rfl, _⟩; rfl)
  | (rintro ps ⟨_, _, _, _, _, _, _, _, _, _, _, _, _, _, rfl, _⟩; rfl)
  | (rintro ps ⟨_, _, _, _, _, _, _, _, _, _, _, _, _, _, _, rfl, _⟩; rfl)
  | (rintro ps ⟨_, _, _, _, _, _, _, _, _, _, _, _, _, _, _, _, _, rfl, _⟩; rfl)
  | (rintro ps ⟨_, _, _, _, _, _, _, _, _, _, _, _, _, _, _, _, _, _, _, _, rfl, _⟩; rfl)
  | (rintro ps ⟨_, _, _, _, _, _, _, _, _, _, _, _, _, _, _, _, _, _, _, _, _, rfl, _⟩; rfl)
  | (rintro ps ⟨_, _, _, _, _, _, _, _, _, _, _, _, _, _, _, _, _, _, _, _, _, _, rfl, _⟩; rfl)
  | (rintro ps ⟨_, _, _, _, _, _, _, _, _, _, _, _, _, _, _, _, _, _, _, _, _, _, _, rfl, _⟩; rfl)
  | (rintro ps ⟨_, _, _, _, _, _, _, _, _, _, _, _, _, _, _, _, _, _, _, _, _, _, _, _, rfl, _⟩; rfl)
  | (rintro ps ⟨_, _, _, _, _, _, _, _, _, _, _, _, _, _, _, _, _, _, _, _, _, _, _, _, _, _, _, rfl, _⟩; rfl)
  | (rintro ps ⟨_, _, _, _, _, _, _, _, _, _, _, _, _, _, _, _, _, _, _, _, _, _, _, _, _, _, _, _, _, _, _, rfl, _⟩; rfl)
  | (rintro ps ⟨_, _, _, _, _, _, _, _, _, _, _, _, _, _, _, _, _, _, _, _, _, _, _, _, _, _, _, _, _, _, _, _, _, _, _, rfl, _⟩; rfl)
  | (rintro ps rfl; rfl)
theorem nomore_kind {u : U} {ts : List Nat} (h : ∀ t, t < 61 → t ∉ ts → kinds.getD t 0 ≠ u.kind) : ∀ (t : Nat) (T : ObjT U) (ps : List (EV U)), objs[t]? = some T → t ∉ ts → ps.length = T.nv → T.ok ps → some (EV.u u) ≠ some (EV.u (T.obj ps)) := by
 intro t T ps ht hn _ hok e
 injection e with e; injection e with e
 have hk := kind_of t T ht ps hok
 rw [← e] at hk
 exact h t (List.getElem?_eq_some_iff.1 ht).1 hn hk.symm
theorem mixed : Tryz.prog.follows .mixedOrders = true := by kernel_rfl
def cx (P : Program) (cts : List (Ctr U)) : Cx U := { P := P, cts := cts, objs := objs, loops := [], hints := [] }
def cLoad : Ctr U :=
 { fn := 116, nin := 2, args := [.hnd 0, .int .i64 (.var 1)], heap := [.abs 0]
   pre := fun ins => ∃ M at_, ins = [.u (.mem M), .i at_], nout := 2
   out := fun ins => match ins with | [.u (.mem M), .i at_] => [.u (.mem (M.load at_)), .i (M.load at_).n] | _ => []
   ret := .int .u64 (.var 3), post := [.abs 2] }
def cStore : Ctr U :=
 { fn := 95, nin := 3, args := [.hnd 0, .int .i64 (.var 1), .int .u64 (.var 2)], heap := [.abs 0]
   pre := fun ins => ∃ M at_ x, ins = [.u (.mem M), .i at_, .i x], nout := 1
   out := fun ins => match ins with | [.u (.mem M), .i at_, .i x] => [.u (.mem (M.store at_ x))] | _ => []
   ret := .tuple [], post := [.abs 3] }
def cCAS : Ctr U :=
 { fn := 214, nin := 4, args := [.hnd 0, .int .i64 (.var 1), .int .u64 (.var 2), .int .u64 (.var 3)], heap := [.abs 0]
   pre := fun ins => ∃ M at_ x y, ins = [.u (.mem M), .i at_, .i x, .i y], nout := 2
   out := fun ins => match ins with | [.u (.mem M), .i at_, .i x, .i y] => [.u (.mem (M.cas at_ x y)), .b (M.cas at_ x y).h] | _ => []
   ret := .bool (.var 5), post := [.abs 4] }
def cNew : Ctr U :=
 { fn := 15, nin := 1, args := [.int .i64 (.var 0)], heap := []
   pre := fun ins => ∃ n, ins = [.i n], nout := 2
   out := fun ins => match ins with | [.i n] => if 1 ≤ n ∧ n ≤ 4096 then [.u (.mem (.new n)), .i 0] else [.u .memNil, .i 3] | _ => []
   ret := .tuple [.hnd 0, .int .i64 (.var 2)], post := [.abs 1] }
def cLast : Ctr U :=
 { fn := 38, nin := 1, args := [.hnd 0], heap := [.abs 0]
   pre := fun ins => ∃ M, ins = [.u (.mem M)], nout := 6
   out := fun ins => match ins with | [.u (.mem M)] => [.u (.mem M), .i M.k, .i M.a, .i M.o, .i M.n, .b M.h] | _ => []
   ret := .agg [.int .i64 (.var 2), .int .i64 (.var 3), .int .u64 (.var 4), .int .u64 (.var 5), .bool (.var 6)], post := [.abs 1] }
def cCount : Ctr U :=
 { fn := 24, nin := 1, args := [.hnd 0], heap := [.abs 0]
   pre := fun ins => ∃ M, ins = [.u (.mem M)], nout := 2
   out := fun ins => match ins with | [.u (.mem M)] => [.u (.mem M), .i M.N] | _ => []
   ret := .int .i64 (.var 2), post := [.abs 1] }
set_option maxRecDepth 100000
def tLoad : Tree := (.and (.opn 0 0 (.br (.cmp .lss (.var 1) (.lit 0))
 (.ext (.mk 0 [.var 2, .ex (.var 3), .ex (.lit 1), .ex (.var 1), .ex (.lit 0), .ex (.lit 0), .bx (.lit false), .ex (.bin .add .i64 (.var 9) (.lit 1))]) (.ret [.var 10, .ex (.lit 0)]))
 (.br (.cmp .geq (.var 1) (.var 3))
 (.ext (.mk 0 [.var 2, .ex (.var 3), .ex (.lit 1), .ex (.var 1), .ex (.lit 0), .ex (.lit 0), .bx (.lit false), .ex (.bin .add .i64 (.var 9) (.lit 1))]) (.ret [.var 10, .ex (.lit 0)]))
 (.need (.cmp .leq (.lit 0) (.var 1)) (.need (.cmp .lss (.var 1) (.lit 4096)) (.need (.cmp .leq (.lit 0) (.var 1)) (.need (.cmp .lss (.var 1) (.len 2)) (.need (.cmp .leq (.lit 0) (.var 1)) (.need (.cmp .lss (.var 1) (.len 2)) (.need (.cmp .leq (.lit 0) (.var 1)) (.need (.cmp .lss (.var 1) (.len 2)) (.ext (.setl 2 (.var 1) (.nth 2 (.var 1))) (.ext (.mk 0 [.var 10, .ex (.var 3), .ex (.lit 1), .ex (.var 1), .ex (.nth 2 (.var 1)), .ex (.nth 2 (.var 1)), .bx (.lit false), .ex (.bin .add .i64 (.var 9) (.lit 1))]) (.ret [.var 11, .ex (.nth 2 (.var 1))]))))))))))))))
 (.nomore 0 [0]))
theorem rLoad : runCtr (cx Tryz.prog []) 20 cLoad [(0, [0])] [(0, [0, 1])] = tLoad := by kernel_rfl
def tStore : Tree := (.and (.opn 0 0 (.br (.cmp .lss (.var 1) (.lit 0))
 (.ext (.mk 0 [.var 3, .ex (.var 4), .ex (.lit 2), .ex (.var 1), .ex (.lit 0), .ex (.lit 0), .bx (.lit false), .ex (.bin .add .i64 (.var 10) (.lit 1))]) (.ret [.var 11]))
 (.br (.cmp .geq (.var 1) (.var 4))
 (.ext (.mk 0 [.var 3, .ex (.var 4), .ex (.lit 2), .ex (.var 1), .ex (.lit 0), .ex (.lit 0), .bx (.lit false), .ex (.bin .add .i64 (.var 10) (.lit 1))]) (.ret [.var 11]))
 (.need (.cmp .leq (.lit 0) (.var 1)) (.need (.cmp .lss (.var 1) (.lit 4096)) (.need (.cmp .leq (.lit 0) (.var 1)) (.need (.cmp .lss (.var 1) (.len 3)) (.need (.cmp .leq (.lit 0) (.var 1)) (.need (.cmp .lss (.var 1) (.len 3)) (.ext (.setl 3 (.var 1) (.var 2)) (.ext (.mk 0 [.var 11, .ex (.var 4), .ex (.lit 2), .ex (.var 1), .ex (.nth 3 (.var 1)), .ex (.var 2), .bx (.lit true), .ex (.bin .add .i64 (.var 10) (.lit 1))]) (.ret [.var 12]))))))))))))
 (.nomore 0 [0]))
theorem rStore : runCtr (cx Tryz.prog []) 20 cStore [(0, [0])] [(0, [0, 1])] = tStore := by kernel_rfl
def tCAS : Tree := (.and (.opn 0 0 (.br (.cmp .lss (.var 1) (.lit 0))
 (.ext (.mk 0 [.var 4, .ex (.var 5), .ex (.lit 3), .ex (.var 1), .ex (.lit 0), .ex (.lit 0), .bx (.lit false), .ex (.bin .add .i64 (.var 11) (.lit 1))]) (.ret [.var 12, .bx (.lit false)]))
 (.br (.cmp .geq (.var 1) (.var 5))
 (.ext (.mk 0 [.var 4, .ex (.var 5), .ex (.lit 3), .ex (.var 1), .ex (.lit 0), .ex (.lit 0), .bx (.lit false), .ex (.bin .add .i64 (.var 11) (.lit 1))]) (.ret [.var 12, .bx (.lit false)]))
 (.need (.cmp .leq (.lit 0) (.var 1)) (.need (.cmp .lss (.var 1) (.lit 4096)) (.need (.cmp .leq (.lit 0) (.var 1)) (.need (.cmp .lss (.var 1) (.len 4)) (.br (.cmp .eql (.nth 4 (.var 1)) (.var 2))
 (.need (.cmp .leq (.lit 0) (.var 1)) (.need (.cmp .lss (.var 1) (.len 4)) (.need (.cmp .leq (.lit 0) (.var 1)) (.need (.cmp .lss (.var 1) (.len 4)) (.ext (.setl 4 (.var 1) (.var 3)) (.ext (.mk 0 [.var 12, .ex (.var 5), .ex (.lit 3), .ex (.var 1), .ex (.nth 4 (.var 1)), .ex (.var 3), .bx (.lit true), .ex (.bin .add .i64 (.var 11) (.lit 1))]) (.ret [.var 13, .bx (.lit true)])))))))
 (.need (.cmp .leq (.lit 0) (.var 1)) (.need (.cmp .lss (.var 1) (.len 4)) (.need (.cmp .leq (.lit 0) (.var 1)) (.need (.cmp .lss (.var 1) (.len 4)) (.need (.cmp .leq (.lit 0) (.var 1)) (.need (.cmp .lss (.var 1) (.len 4)) (.ext (.setl 4 (.var 1) (.nth 4 (.var 1))) (.ext (.mk 0 [.var 12, .ex (.var 5), .ex (.lit 3), .ex (.var 1), .ex (.nth 4 (.var 1)), .ex (.nth 4 (.var 1)), .bx (.lit false), .ex (.bin .add .i64 (.var 11) (.lit 1))]) (.ret [.var 13, .bx (.lit false)])))))))))))))))))
 (.nomore 0 [0]))
theorem rCAS : runCtr (cx Tryz.prog []) 20 cCAS [(0, [0])] [(0, [0, 1])] = tCAS := by kernel_rfl
def tNew : Tree := (.br (.cmp .lss (.var 0) (.lit 1))
 (.ext (.mk 1 []) (.ret [.var 1, .ex (.lit 3)]))
 (.br (.cmp .gtr (.var 0) (.lit 4096))
 (.ext (.mk 1 []) (.ret [.var 1, .ex (.lit 3)]))
 (.ext (.repl (.lit 4096) (.lit 0)) (.ext (.mk 0 [.var 1, .ex (.var 0), .ex (.lit 0), .ex (.lit 0), .ex (.lit 0), .ex (.lit 0), .bx (.lit false), .ex (.lit 0)]) (.ret [.var 2, .ex (.lit 0)])))))
theorem rNew : runCtr (cx Tryz.prog []) 20 cNew [] [(0, [0, 1])] = tNew := by kernel_rfl
def tLast : Tree := (.and (.opn 0 0 (.ext (.mk 0 [.var 1, .ex (.var 2), .ex (.var 3), .ex (.var 4), .ex (.var 5), .ex (.var 6), .bx (.var 7), .ex (.var 8)]) (.ret [.var 9, .ex (.var 3), .ex (.var 4), .ex (.var 5), .ex (.var 6), .bx (.var 7)])))
 (.nomore 0 [0]))
theorem rLast : runCtr (cx Tryz.prog []) 20 cLast [(0, [0])] [(0, [0, 1])] = tLast := by kernel_rfl
def tCount : Tree := (.and (.opn 0 0 (.ext (.mk 0 [.var 1, .ex (.var 2), .ex (.var 3), .ex (.var 4), .ex (.var 5), .ex (.var 6), .bx (.var 7), .ex (.var 8)]) (.ret [.var 9, .ex (.var 8)])))
 (.nomore 0 [0]))
theorem rCount : runCtr (cx Tryz.prog []) 20 cCount [(0, [0])] [(0, [0, 1])] = tCount := by kernel_rfl
section
variable {l : List Int} {s k a o n N at_ w : Int} {h held : Bool} {kind : Int}
theorem mem_is (h1 : l.length = 4096) (h2 : 0 ≤ s) (h3 : s ≤ 4096) : (MemSt.mk (l.take s.toNat) k a o n h N).is at_ = decide (0 ≤ at_ ∧ at_ < s) := by
 unfold MemSt.is
 have : (l.take s.toNat).length = s.toNat := by rw [List.length_take]; omega
 rw [this]
 congr 1
 apply propext
 omega
theorem mem_word (h1 : 0 ≤ at_) (h2 : at_ < s) : (MemSt.mk (l.take s.toNat) k a o n h N).word at_ = l[at_.toNat]?.getD 0 := by
 unfold MemSt.word
 rw [List.getD, List.getElem?_take, if_pos (by omega)]
theorem mem_in (h1 : l.length = 4096) (h3 : s ≤ 4096) (g1 : 0 ≤ at_) (g2 : at_ < s) :
 (MemSt.mk (l.take s.toNat) k a o n h N).acc kind at_ w held = ⟨(l.set at_.toNat w).take s.toNat, kind, at_, l[at_.toNat]?.getD 0, w, held, IntKind.i64.wrap (N + 1)⟩ := by
 unfold MemSt.acc
 rw [mem_is h1 (by omega) h3, if_pos (by simp; omega), mem_word g1 g2, List.take_set]
theorem mem_out (h1 : l.length = 4096) (h2 : 0 ≤ s) (h3 : s ≤ 4096) (g : at_ < 0 ∨ s ≤ at_) :
 (MemSt.mk (l.take s.toNat) k a o n h N).acc kind at_ w held = ⟨l.take s.toNat, kind, at_, 0, 0, false, IntKind.i64.wrap (N + 1)⟩ := by
 unfold MemSt.acc
 rw [mem_is h1 h2 h3, if_neg (by simp; omega)]
theorem memOk_mk (h1 : l.length = 4096) (h2 : 0 ≤ s) (h3 : s ≤ 4096) : memOk [.l l, .i s, .i k, .i a, .i o, .i n, .b h, .i N] := ⟨_, _, _, _, _, _, _, _, rfl, h1, h2, h3⟩
end
theorem nomore_mem {M : MemSt} : ∀ (t : Nat) (T : ObjT U) (ps : List (EV U)), objs[t]? = some T → t ∉ [0] → ps.length = T.nv → T.ok ps → some (EV.u (U.mem M)) ≠ some (EV.u (T.obj ps)) := by
 exact nomore_kind (by show ∀ t, t < 61 → t ∉ [0] → kinds.getD t 0 ≠ 1; decide)
set_option maxHeartbeats 1000000 in
theorem vLoad (P : Program) : ∀ ins, ins.length = cLoad.nin → cLoad.pre ins → tLoad.sat (cx P []) (ctrR cLoad) ins := by
 rintro ins _ ⟨M, at_, rfl⟩
 simp only [Tree.sat, Bx.den, Ex.den, Bnd.den, gI, gB, gL, gF, gN, gNil, List.map_cons, List.map_nil, List.cons_append, List.nil_append, List.getElem?_cons_zero, List.getElem?_cons_succ, List.getD, Option.getD_some, cmp_eql_t, cmp_eql_f, cmp_neq_t, cmp_neq_f, cmp_lss_t, cmp_lss_f, cmp_leq_t, cmp_leq_f, cmp_gtr_t, cmp_gtr_f, cmp_geq_t, cmp_geq_f, Bool.not_eq_true', Bool.not_eq_false', Bool.and_eq_true, Bool.and_eq_false_iff, binDen, ctrR, Ctr.may, List.take_succ_cons, List.take_zero, Option.some.injEq, EV.u.injEq, tLoad, cx, objs]
 refine ⟨?_, nomore_mem⟩
 rintro ps hl ⟨l, s, k, a, o, n, h, N, rfl, h1, h2, h3⟩ he
 injection he with he; subst he
 simp only [Tree.sat, Bx.den, Ex.den, Bnd.den, gI, gB, gL, gF, gN, gNil, List.map_cons, List.map_nil, List.cons_append, List.nil_append, List.getElem?_cons_zero, List.getElem?_cons_succ, List.getD, Option.getD_some, cmp_eql_t, cmp_eql_f, cmp_neq_t, cmp_neq_f, cmp_lss_t, cmp_lss_f, cmp_leq_t, cmp_leq_f, cmp_gtr_t, cmp_gtr_f, cmp_geq_t, cmp_geq_f, Bool.not_eq_true', Bool.not_eq_false', Bool.and_eq_true, Bool.and_eq_false_iff, binDen, ctrR, Ctr.may, List.take_succ_cons, List.take_zero, Option.some.injEq, EV.u.injEq, memT, memObj, cLoad, List.length_set]
 refine ⟨fun g => ⟨memOk_mk h1 h2 h3, ?_⟩, fun g => ⟨fun g2 => ⟨memOk_mk h1 h2 h3, ?_⟩, fun g2 => ⟨by omega, by omega, by omega, by omega, by omega, by omega, by omega, by omega, memOk_mk (by simpa using h1) h2 h3, ?_⟩⟩⟩
 · rw [MemSt.load, mem_out h1 h2 h3 (.inl g)]
 · rw [MemSt.load, mem_out h1 h2 h3 (.inr g2)]
 · rw [MemSt.load, mem_word (by omega) (by omega), mem_in h1 h3 (by omega) (by omega)]
set_option maxHeartbeats 1000000 in
theorem vStore (P : Program) : ∀ ins, ins.length = cStore.nin → cStore.pre ins → tStore.sat (cx P []) (ctrR cStore) ins := by
 rintro ins _ ⟨M, at_, x, rfl⟩
 simp only [Tree.sat, Bx.den, Ex.den, Bnd.den, gI, gB, gL, gF, gN, gNil, List.map_cons, List.map_nil, List.cons_append, List.nil_append, List.getElem?_cons_zero, List.getElem?_cons_succ, List.getD, Option.getD_some, cmp_eql_t, cmp_eql_f, cmp_neq_t, cmp_neq_f, cmp_lss_t, cmp_lss_f, cmp_leq_t, cmp_leq_f, cmp_gtr_t, cmp_gtr_f, cmp_geq_t, cmp_geq_f, Bool.not_eq_true', Bool.not_eq_false', Bool.and_eq_true, Bool.and_eq_false_iff, binDen, ctrR, Ctr.may, List.take_succ_cons, List.take_zero, Option.some.injEq, EV.u.injEq, tStore, cx, objs]
 refine ⟨?_, nomore_mem⟩
 rintro ps hl ⟨l, s, k, a, o, n, h, N, rfl, h1, h2, h3⟩ he
 injection he with he; subst he
 simp only [Tree.sat, Bx.den, Ex.den, Bnd.den, gI, gB, gL, gF, gN, gNil, List.map_cons, List.map_nil, List.cons_append, List.nil_append, List.getElem?_cons_zero, List.getElem?_cons_succ, List.getD, Option.getD_some, cmp_eql_t, cmp_eql_f, cmp_neq_t, cmp_neq_f, cmp_lss_t, cmp_lss_f, cmp_leq_t, cmp_leq_f, cmp_gtr_t, cmp_gtr_f, cmp_geq_t, cmp_geq_f, Bool.not_eq_true', Bool.not_eq_false', Bool.and_eq_true, Bool.and_eq_false_iff, binDen, ctrR, Ctr.may, List.take_succ_cons, List.take_zero, Option.some.injEq, EV.u.injEq, memT, memObj, cStore, List.length_set]
 refine ⟨fun g => ⟨memOk_mk h1 h2 h3, ?_⟩, fun g => ⟨fun g2 => ⟨memOk_mk h1 h2 h3, ?_⟩, fun g2 => ⟨by omega, by omega, by omega, by omega, by omega, by omega, memOk_mk (by simpa using h1) h2 h3, ?_⟩⟩⟩
 · rw [MemSt.store, mem_out h1 h2 h3 (.inl g)]
 · rw [MemSt.store, mem_out h1 h2 h3 (.inr g2)]
 · rw [MemSt.store, mem_in h1 h3 (by omega) (by omega)]
set_option maxHeartbeats 1000000 in
theorem vCAS (P : Program) : ∀ ins, ins.length = cCAS.nin → cCAS.pre ins → tCAS.sat (cx P []) (ctrR cCAS) ins := by
 rintro ins _ ⟨M, at_, x, y, rfl⟩
 simp only [Tree.sat, Bx.den, Ex.den, Bnd.den, gI, gB, gL, gF, gN, gNil, List.map_cons, List.map_nil, List.cons_append, List.nil_append, List.getElem?_cons_zero, List.getElem?_cons_succ, List.getD, Option.getD_some, cmp_eql_t, cmp_eql_f, cmp_neq_t, cmp_neq_f, cmp_lss_t, cmp_lss_f, cmp_leq_t, cmp_leq_f, cmp_gtr_t, cmp_gtr_f, cmp_geq_t, cmp_geq_f, Bool.not_eq_true', Bool.not_eq_false', Bool.and_eq_true, Bool.and_eq_false_iff, binDen, ctrR, Ctr.may, List.take_succ_cons, List.take_zero, Option.some.injEq, EV.u.injEq, tCAS, cx, objs]
 refine ⟨?_, nomore_mem⟩
 rintro ps hl ⟨l, s, k, a, o, n, h, N, rfl, h1, h2, h3⟩ he
 injection he with he; subst he
 simp only [Tree.sat, Bx.den, Ex.den, Bnd.den, gI, gB, gL, gF, gN, gNil, List.map_cons, List.map_nil, List.cons_append, List.nil_append, List.getElem?_cons_zero, List.getElem?_cons_succ, List.getD, Option.getD_some, cmp_eql_t, cmp_eql_f, cmp_neq_t, cmp_neq_f, cmp_lss_t, cmp_lss_f, cmp_leq_t, cmp_leq_f, cmp_gtr_t, cmp_gtr_f, cmp_geq_t, cmp_geq_f, Bool.not_eq_true', Bool.not_eq_false', Bool.and_eq_true, Bool.and_eq_false_iff, binDen, ctrR, Ctr.may, List.take_succ_cons, List.take_zero, Option.some.injEq, EV.u.injEq, memT, memObj, cCAS, List.length_set]
 have hout : at_ < 0 ∨ s ≤ at_ → (MemSt.mk (l.take s.toNat) k a o n h N).cas at_ x y = ⟨l.take s.toNat, 3, at_, 0, 0, false, IntKind.i64.wrap (N + 1)⟩ := fun g => by
  unfold MemSt.cas
  split <;> exact mem_out h1 h2 h3 g
 refine ⟨fun g => ⟨memOk_mk h1 h2 h3, ?_⟩, fun g => ⟨fun g2 => ⟨memOk_mk h1 h2 h3, ?_⟩, fun g2 => ⟨by omega, by omega, by omega, by omega, fun g3 => ⟨by omega, by omega, by omega, by omega, memOk_mk (by simpa using h1) h2 h3, ?_⟩, fun g3 => ⟨by omega, by omega, by omega, by omega, by omega, by omega, memOk_mk (by simpa using h1) h2 h3, ?_⟩⟩⟩⟩
 · rw [hout (.inl g)]
 · rw [hout (.inr g2)]
 · rw [MemSt.cas, mem_word (by omega) (by omega), if_pos g3, mem_in h1 h3 (by omega) (by omega)]
 · rw [MemSt.cas, mem_word (by omega) (by omega), if_neg g3, mem_in h1 h3 (by omega) (by omega)]
set_option maxHeartbeats 1000000 in
theorem vNew (P : Program) : ∀ ins, ins.length = cNew.nin → cNew.pre ins → tNew.sat (cx P []) (ctrR cNew) ins := by
 rintro ins _ ⟨n, rfl⟩
 unfold tNew
 simp only [Tree.sat, Bx.den, Ex.den, Bnd.den, gI, gB, gL, gF, gN, gNil, List.map_cons, List.map_nil, List.cons_append, List.nil_append, List.getElem?_cons_zero, List.getElem?_cons_succ, List.getD, Option.getD_some, cmp_eql_t, cmp_eql_f, cmp_neq_t, cmp_neq_f, cmp_lss_t, cmp_lss_f, cmp_leq_t, cmp_leq_f, cmp_gtr_t, cmp_gtr_f, cmp_geq_t, cmp_geq_f, Bool.not_eq_true', Bool.not_eq_false', Bool.and_eq_true, Bool.and_eq_false_iff, binDen, ctrR, Ctr.may, List.take_succ_cons, List.take_zero, Option.some.injEq, EV.u.injEq, memT, memNilT, memObj, cNew, cx, objs, List.length_set]
 refine ⟨fun g => ⟨trivial, ?_⟩, fun g => ⟨fun g2 => ⟨trivial, ?_⟩, fun g2 => ⟨memOk_mk (by rw [List.length_replicate]; rfl) (by omega) (by omega), ?_⟩⟩⟩
 · rw [if_neg (by omega)]
 · rw [if_neg (by omega)]
 · rw [if_pos (by omega), MemSt.new]
   have : (List.replicate (Int.toNat 4096) (0 : Int)).take n.toNat = List.replicate n.toNat 0 := by
    rw [List.take_replicate]
    congr 1
    omega
   rw [this]
set_option maxHeartbeats 1000000 in
theorem vLast (P : Program) : ∀ ins, ins.length = cLast.nin → cLast.pre ins → tLast.sat (cx P []) (ctrR cLast) ins := by
 rintro ins _ ⟨M, rfl⟩
 simp only [Tree.sat, Bx.den, Ex.den, Bnd.den, gI, gB, gL, gF, gN, gNil, List.map_cons, List.map_nil, List.cons_append, List.nil_append, List.getElem?_cons_zero, List.getElem?_cons_succ, List.getD, Option.getD_some, cmp_eql_t, cmp_eql_f, cmp_neq_t, cmp_neq_f, cmp_lss_t, cmp_lss_f, cmp_leq_t, cmp_leq_f, cmp_gtr_t, cmp_gtr_f, cmp_geq_t, cmp_geq_f, Bool.not_eq_true', Bool.not_eq_false', Bool.and_eq_true, Bool.and_eq_false_iff, binDen, ctrR, Ctr.may, List.take_succ_cons, List.take_zero, Option.some.injEq, EV.u.injEq, tLast, cx, objs]
 refine ⟨?_, nomore_mem⟩
 rintro ps hl ⟨l, s, k, a, o, n, h, N, rfl, h1, h2, h3⟩ he
 injection he with he; subst he
 simp only [Tree.sat, Bx.den, Ex.den, Bnd.den, gI, gB, gL, gF, gN, gNil, List.map_cons, List.map_nil, List.cons_append, List.nil_append, List.getElem?_cons_zero, List.getElem?_cons_succ, List.getD, Option.getD_some, cmp_eql_t, cmp_eql_f, cmp_neq_t, cmp_neq_f, cmp_lss_t, cmp_lss_f, cmp_leq_t, cmp_leq_f, cmp_gtr_t, cmp_gtr_f, cmp_geq_t, cmp_geq_f, Bool.not_eq_true', Bool.not_eq_false', Bool.and_eq_true, Bool.and_eq_false_iff, binDen, ctrR, Ctr.may, List.take_succ_cons, List.take_zero, Option.some.injEq, EV.u.injEq, memT, memObj, cLast]
 exact ⟨memOk_mk h1 h2 h3, trivial⟩
set_option maxHeartbeats 1000000 in
theorem vCount (P : Program) : ∀ ins, ins.length = cCount.nin → cCount.pre ins → tCount.sat (cx P []) (ctrR cCount) ins := by
 rintro ins _ ⟨M, rfl⟩
 simp only [Tree.sat, Bx.den, Ex.den, Bnd.den, gI, gB, gL, gF, gN, gNil, List.map_cons, List.map_nil, List.cons_append, List.nil_append, List.getElem?_cons_zero, List.getElem?_cons_succ, List.getD, Option.getD_some, cmp_eql_t, cmp_eql_f, cmp_neq_t, cmp_neq_f, cmp_lss_t, cmp_lss_f, cmp_leq_t, cmp_leq_f, cmp_gtr_t, cmp_gtr_f, cmp_geq_t, cmp_geq_f, Bool.not_eq_true', Bool.not_eq_false', Bool.and_eq_true, Bool.and_eq_false_iff, binDen, ctrR, Ctr.may, List.take_succ_cons, List.take_zero, Option.some.injEq, EV.u.injEq, tCount, cx, objs]
 refine ⟨?_, nomore_mem⟩
 rintro ps hl ⟨l, s, k, a, o, n, h, N, rfl, h1, h2, h3⟩ he
 injection he with he; subst he
 simp only [Tree.sat, Bx.den, Ex.den, Bnd.den, gI, gB, gL, gF, gN, gNil, List.map_cons, List.map_nil, List.cons_append, List.nil_append, List.getElem?_cons_zero, List.getElem?_cons_succ, List.getD, Option.getD_some, cmp_eql_t, cmp_eql_f, cmp_neq_t, cmp_neq_f, cmp_lss_t, cmp_lss_f, cmp_leq_t, cmp_leq_f, cmp_gtr_t, cmp_gtr_f, cmp_geq_t, cmp_geq_f, Bool.not_eq_true', Bool.not_eq_false', Bool.and_eq_true, Bool.and_eq_false_iff, binDen, ctrR, Ctr.may, List.take_succ_cons, List.take_zero, Option.some.injEq, EV.u.injEq, memT, memObj, cCount]
 exact ⟨memOk_mk h1 h2 h3, trivial⟩
theorem noCts {p : Ctr U → Prop} : ∀ (ci : Nat) (c : Ctr U), ([] : List (Ctr U))[ci]? = some c → p c := by
 intro ci c h; simp at h
theorem callable (P : Program) {g : FuncId} {fn : Func} (h : P.funcs[g]? = some fn) (hb : fn.body.isSome = true) (hn : (fn.name == "runtime.NumGoroutine") = false) : Callable P g := by
 cases hb' : fn.body with
 | none => simp [hb'] at hb
 | some c => exact ⟨fn, c, h, hb', hn⟩
theorem hLoad : cLoad.Holds objs Tryz.prog := runCtr_holds (X := cx Tryz.prog []) objsOk mixed noCts (callable _ Tryz.func116 (by kernel_rfl) (by kernel_rfl)) (by rintro ins _ ⟨M, at_, rfl⟩; rfl) (by rw [rLoad]; exact vLoad _)
theorem hStore : cStore.Holds objs Tryz.prog := runCtr_holds (X := cx Tryz.prog []) objsOk mixed noCts (callable _ Tryz.func95 (by kernel_rfl) (by kernel_rfl)) (by rintro ins _ ⟨M, at_, x, rfl⟩; rfl) (by rw [rStore]; exact vStore _)
theorem hCAS : cCAS.Holds objs Tryz.prog := runCtr_holds (X := cx Tryz.prog []) objsOk mixed noCts (callable _ Tryz.func214 (by kernel_rfl) (by kernel_rfl)) (by rintro ins _ ⟨M, at_, x, y, rfl⟩; rfl) (by rw [rCAS]; exact vCAS _)
theorem hNew : cNew.Holds objs Tryz.prog := runCtr_holds (X := cx Tryz.prog []) objsOk mixed noCts (callable _ Tryz.func15 (by kernel_rfl) (by kernel_rfl)) (by rintro ins _ ⟨n, rfl⟩; dsimp only [cNew]; split <;> rfl) (by rw [rNew]; exact vNew _)
theorem hLast : cLast.Holds objs Tryz.prog := runCtr_holds (X := cx Tryz.prog []) objsOk mixed noCts (callable _ Tryz.func38 (by kernel_rfl) (by kernel_rfl)) (by rintro ins _ ⟨M, rfl⟩; rfl) (by rw [rLast]; exact vLast _)
theorem hCount : cCount.Holds objs Tryz.prog := runCtr_holds (X := cx Tryz.prog []) objsOk mixed noCts (callable _ Tryz.func24 (by kernel_rfl) (by kernel_rfl)) (by rintro ins _ ⟨M, rfl⟩; rfl) (by rw [rCount]; exact vCount _)
def cWords : Ctr U :=
 { fn := 36, nin := 1, args := [.hnd 0], heap := [.abs 0]
   pre := fun ins => ∃ M, ins = [.u (.mem M)], nout := 3
   out := fun ins => match ins with | [.u (.mem M)] => [.u (.mem M), .l M.W, .i M.W.length] | _ => []
   ret := .slice 1 (.var 3) (.var 3), post := [.abs 1, .row .u64 85 2] }
def lWords : LoopS U :=
 { fn := 36, rid := 5, nv := 2, tm := [(31, .int .i64 (.var 10))], hp := [(2, .row .u64 85 11)], reb := []
   inv := fun env => ∃ k xs, env.drop 10 = [.i k, .l xs] ∧ 0 ≤ k ∧ k ≤ gI env 2 ∧ xs = (gL env 1).take k.toNat ++ List.replicate (gI env 2 - k).toNat 0
   mu := fun env => (gI env 2 - gI env 10).toNat }
def cSameWords : Ctr U :=
 { fn := 35, nin := 6, args := [.slice 0 (.var 2) (.var 3), .slice 1 (.var 4) (.var 5)], heap := [.row .u64 85 0, .row .u64 85 1]
   pre := fun ins => ∃ xs ys a b c d, ins = [.l xs, .l ys, .i a, .i c, .i b, .i d] ∧ 0 ≤ a ∧ a ≤ xs.length ∧ 0 ≤ b ∧ b ≤ ys.length ∧ a < 2 ^ 62, nout := 1
   out := fun ins => match ins with | [.l xs, .l ys, .i a, _, .i b, _] => [.b (decide (xs.take a.toNat = ys.take b.toNat))] | _ => []
   ret := .bool (.var 6), post := [.row .u64 85 0, .row .u64 85 1] }
def lSameWords : LoopS U :=
 { fn := 35, rid := 3, nv := 2, tm := [(5, .bool (.var 7)), (6, .int .i64 (.var 6))], hp := [], reb := []
   inv := fun env => ∃ k b, env.drop 6 = [.i k, .b b] ∧ 0 ≤ k ∧ k ≤ gI env 2 ∧ (b = true → gI env 2 = gI env 4 ∧ (gL env 0).take k.toNat = (gL env 1).take k.toNat) ∧ (b = false → (gL env 0).take (gI env 2).toNat ≠ (gL env 1).take (gI env 4).toNat)
   mu := fun env => (gI env 2 - gI env 6).toNat + if gB env 7 then 1 else 0 }
def cPick : Ctr U :=
 { fn := 21, nin := 2, args := [.int .i64 (.var 0), .int .i64 (.var 1)], heap := []
   pre := fun ins => ∃ x n, ins = [.i x, .i n] ∧ 0 < n ∧ n < 2 ^ 62, nout := 1
   out := fun ins => match ins with | [.i x, .i n] => [.i (x.emod n)] | _ => []
   ret := .int .i64 (.var 2), post := [] }
def cxW (P : Program) : Cx U := { cx P [] with loops := [lWords, lSameWords] }
def tWords : Tree := (.and (.opn 0 0 (.need (.cmp .leq (.lit 0) (.var 2)) (.need (.cmp .leq (.var 2) (.lit 1000000)) (.ext (.repl (.var 2) (.lit 0)) (.need (.cmp .leq (.lit 0) (.var 2)) (.need (.cmp .leq (.var 2) (.lit 4096)) (.need (.cmp .lss (.lit 0) (.len 1)) (.need (.cmp .leq (.lit 0) (.var 2)) (.loop 0 10 [.ex (.lit 0), .var 9] (.br (.cmp .lss (.var 10) (.var 2))
 (.need (.cmp .leq (.lit 0) (.var 10)) (.need (.cmp .lss (.var 10) (.var 2)) (.need (.cmp .lss (.var 10) (.len 1)) (.need (.cmp .leq (.lit 0) (.var 10)) (.need (.cmp .lss (.var 10) (.len 1)) (.need (.cmp .leq (.lit 0) (.var 10)) (.need (.cmp .lss (.var 10) (.var 2)) (.need (.cmp .lss (.var 10) (.len 11)) (.need (.cmp .leq (.lit 0) (.var 10)) (.need (.cmp .lss (.var 10) (.len 11)) (.ext (.setl 11 (.var 10) (.nth 1 (.var 10))) (.back 0 10 [.ex (.bin .add .i64 (.var 10) (.lit 1)), .var 12]))))))))))))
 (.ext (.mk 0 [.var 1, .ex (.var 2), .ex (.var 3), .ex (.var 4), .ex (.var 5), .ex (.var 6), .bx (.var 7), .ex (.var 8)]) (.ret [.var 12, .var 11, .ex (.var 2)]))))))))))))
 (.nomore 0 [0]))
theorem rWords : runCtr (cxW Tryz.prog) 20 cWords [(0, [0])] [(0, [0])] = tWords := by kernel_rfl
def tSameWords : Tree := (.need (.cmp .leq (.lit 0) (.var 2)) (.need (.cmp .leq (.lit 0) (.var 4)) (.loop 1 6 [.ex (.lit 0), .bx (.cmp .eql (.var 2) (.var 4))] (.br (.var 7)
 (.need (.cmp .leq (.lit 0) (.var 2)) (.br (.cmp .lss (.var 6) (.var 2))
 (.need (.cmp .leq (.lit 0) (.var 6)) (.need (.cmp .lss (.var 6) (.var 2)) (.need (.cmp .lss (.var 6) (.len 0)) (.need (.cmp .leq (.lit 0) (.var 6)) (.need (.cmp .lss (.var 6) (.len 0)) (.need (.cmp .leq (.lit 0) (.var 6)) (.need (.cmp .lss (.var 6) (.var 4)) (.need (.cmp .lss (.var 6) (.len 1)) (.need (.cmp .leq (.lit 0) (.var 6)) (.need (.cmp .lss (.var 6) (.len 1)) (.back 1 6 [.ex (.bin .add .i64 (.var 6) (.lit 1)), .bx (.cmp .eql (.nth 0 (.var 6)) (.nth 1 (.var 6)))])))))))))))
 (.ret [.bx (.var 7)])))
 (.ret [.bx (.var 7)])))))
theorem rSameWords : runCtr (cxW Tryz.prog) 20 cSameWords [] [] = tSameWords := by kernel_rfl
def tPick : Tree := (.br (.cmp .leq (.var 1) (.lit 0))
 (.ret [.ex (.lit 0)])
 (.need (.cmp .neq (.var 1) (.lit 0)) (.br (.cmp .lss (.bin .rem .i64 (.var 0) (.var 1)) (.lit 0))
 (.ret [.ex (.bin .add .i64 (.bin .rem .i64 (.var 0) (.var 1)) (.var 1))])
 (.ret [.ex (.bin .rem .i64 (.var 0) (.var 1))]))))
theorem rPick : runCtr (cxW Tryz.prog) 20 cPick [] [] = tPick := by kernel_rfl
theorem wrap_small {n : Int} (h1 : -(2:Int) ^ 62 ≤ n) (h2 : n < 2 ^ 62) : IntKind.i64.wrap n = n := by
 rw [IntKind.wrap_i64]; omega
theorem cmpDen_eql (x y : Int) : cmpDen .eql x y = decide (x = y) := by unfold cmpDen; exact Bool.beq_eq_decide_eq x y
theorem fill_step {l : List Int} {k n : Nat} (h1 : k < n) (h2 : n ≤ l.length) : (l.take k ++ List.replicate (n - k) 0).set k (l[k]?.getD 0) = l.take (k + 1) ++ List.replicate (n - (k + 1)) 0 := by
 rw [List.set_append_right _ _ (by simp; omega)]
 have e : n - k = (n - (k + 1)) + 1 := by omega
 have e2 : k - (l.take k).length = 0 := by simp; omega
 rw [e, List.replicate_succ, e2, List.set_cons_zero, List.getElem?_eq_getElem (by omega), List.take_add_one, List.append_assoc]
 simp [List.getElem?_eq_getElem (show k < l.length by omega)]
set_option maxHeartbeats 1000000 in
theorem vWords (P : Program) : ∀ ins, ins.length = cWords.nin → cWords.pre ins → tWords.sat (cxW P) (ctrR cWords) ins := by
 rintro ins _ ⟨M, rfl⟩
 simp only [Tree.sat, Bx.den, Ex.den, Bnd.den, gI, gB, gL, gF, gN, gNil, List.map_cons, List.map_nil, List.cons_append, List.nil_append, List.getElem?_cons_zero, List.getElem?_cons_succ, List.getD, Option.getD_some, cmp_eql_t, cmp_eql_f, cmp_neq_t, cmp_neq_f, cmp_lss_t, cmp_lss_f, cmp_leq_t, cmp_leq_f, cmp_gtr_t, cmp_gtr_f, cmp_geq_t, cmp_geq_f, Bool.not_eq_true', Bool.not_eq_false', Bool.and_eq_true, Bool.and_eq_false_iff, binDen, ctrR, Ctr.may, List.take_succ_cons, List.take_zero, Option.some.injEq, EV.u.injEq, tWords, cxW, cx, objs]
 refine ⟨?_, nomore_mem⟩
 rintro ps hl ⟨l, s, k, a, o, n, h, N, rfl, h1, h2, h3⟩ he
 injection he with he; subst he
 simp only [Tree.sat, Bx.den, Ex.den, Bnd.den, gI, gB, gL, gF, gN, gNil, List.map_cons, List.map_nil, List.cons_append, List.nil_append, List.getElem?_cons_zero, List.getElem?_cons_succ, List.getD, Option.getD_some, cmp_eql_t, cmp_eql_f, cmp_neq_t, cmp_neq_f, cmp_lss_t, cmp_lss_f, cmp_leq_t, cmp_leq_f, cmp_gtr_t, cmp_gtr_f, cmp_geq_t, cmp_geq_f, Bool.not_eq_true', Bool.not_eq_false', Bool.and_eq_true, Bool.and_eq_false_iff, binDen, ctrR, Ctr.may, List.take_succ_cons, List.take_zero, Option.some.injEq, EV.u.injEq, memT, memObj, cWords, lWords]
 repeat (refine ⟨by omega, ?_⟩)
 refine ⟨⟨0, _, rfl, by omega, by omega, by simp⟩, ?_⟩
 rintro fr hfr ⟨k', xs, hk, h4, h5, h6⟩
 simp only [List.drop_succ_cons, List.drop_zero] at hk
 subst hk
 have hxl : (xs.length : Int) = s := by rw [h6]; simp; omega
 simp only [Tree.sat, Bx.den, Ex.den, Bnd.den, gI, gB, gL, gF, gN, gNil, List.map_cons, List.map_nil, List.cons_append, List.nil_append, List.getElem?_cons_zero, List.getElem?_cons_succ, List.getD, Option.getD_some, cmp_eql_t, cmp_eql_f, cmp_neq_t, cmp_neq_f, cmp_lss_t, cmp_lss_f, cmp_leq_t, cmp_leq_f, cmp_gtr_t, cmp_gtr_f, cmp_geq_t, cmp_geq_f, Bool.not_eq_true', Bool.not_eq_false', Bool.and_eq_true, Bool.and_eq_false_iff, binDen, ctrR, Ctr.may, List.take_succ_cons, List.take_zero, Option.some.injEq, EV.u.injEq, memT, memObj, cWords, lWords]
 refine ⟨fun g => ?_, fun g => ⟨memOk_mk h1 h2 h3, ?_⟩⟩
 · repeat (refine ⟨by omega, ?_⟩)
   refine ⟨?_, ?_⟩
   · rw [wrap_small (by omega) (by omega)]
     refine ⟨k' + 1, _, rfl, by omega, by omega, ?_⟩
     rw [h6, show (s - k').toNat = s.toNat - k'.toNat by omega, fill_step (by omega) (by omega)]
     congr 2 <;> omega
   · rw [wrap_small (by omega) (by omega)]
     omega
 · obtain rfl : k' = s := by omega
   simp [h6]
   omega
theorem take_eq_step {xs ys : List Int} {k : Nat} (h : xs.take k = ys.take k) (h1 : k < xs.length) (h2 : k < ys.length) : xs.take (k + 1) = ys.take (k + 1) ↔ xs[k]?.getD 0 = ys[k]?.getD 0 := by
 rw [List.take_succ_eq_append_getElem h1, List.take_succ_eq_append_getElem h2, h, List.getElem?_eq_getElem h1, List.getElem?_eq_getElem h2, List.append_right_inj]
 simp
set_option maxHeartbeats 1000000 in
theorem vSameWords (P : Program) : ∀ ins, ins.length = cSameWords.nin → cSameWords.pre ins → tSameWords.sat (cxW P) (ctrR cSameWords) ins := by
 rintro ins _ ⟨xs, ys, a, b, c, d, rfl, p1, p2, p3, p4, h1⟩
 simp only [Tree.sat, Bx.den, Ex.den, Bnd.den, gI, gB, gL, gF, gN, gNil, List.map_cons, List.map_nil, List.cons_append, List.nil_append, List.getElem?_cons_zero, List.getElem?_cons_succ, List.getD, Option.getD_some, cmp_eql_t, cmp_eql_f, cmp_neq_t, cmp_neq_f, cmp_lss_t, cmp_lss_f, cmp_leq_t, cmp_leq_f, cmp_gtr_t, cmp_gtr_f, cmp_geq_t, cmp_geq_f, Bool.not_eq_true', Bool.not_eq_false', Bool.and_eq_true, Bool.and_eq_false_iff, binDen, ctrR, Ctr.may, List.take_succ_cons, List.take_zero, Option.some.injEq, EV.u.injEq, tSameWords, cxW, cx, objs, lSameWords, cSameWords, cmpDen_eql]
 refine ⟨by omega, by omega, ⟨0, _, rfl, by omega, by omega, ?_, ?_⟩, ?_⟩
 · simp
 · simp
   intro h e
   have := congrArg List.length e
   simp only [List.length_take] at this
   omega
 rintro fr hfr ⟨k, b', hk, h4, h5, h6, h7⟩
 simp only [List.drop_succ_cons, List.drop_zero] at hk
 subst hk
 simp only [Tree.sat, Bx.den, Ex.den, Bnd.den, gI, gB, gL, gF, gN, gNil, List.map_cons, List.map_nil, List.cons_append, List.nil_append, List.getElem?_cons_zero, List.getElem?_cons_succ, List.getD, Option.getD_some, cmp_eql_t, cmp_eql_f, cmp_neq_t, cmp_neq_f, cmp_lss_t, cmp_lss_f, cmp_leq_t, cmp_leq_f, cmp_gtr_t, cmp_gtr_f, cmp_geq_t, cmp_geq_f, Bool.not_eq_true', Bool.not_eq_false', Bool.and_eq_true, Bool.and_eq_false_iff, binDen, ctrR, Ctr.may, List.take_succ_cons, List.take_zero, Option.some.injEq, EV.u.injEq, lSameWords, cSameWords, cmpDen_eql]
 refine ⟨fun hb => ?_, fun hb => ?_⟩
 · obtain ⟨h8, h9⟩ := h6 hb
   refine ⟨by omega, fun g => ?_, fun g => ?_⟩
   · repeat (refine ⟨by omega, ?_⟩)
     refine ⟨?_, ?_⟩
     · rw [wrap_small (by omega) (by omega)]
       have hs := take_eq_step h9 (by omega) (by omega)
       refine ⟨k + 1, _, rfl, by omega, by omega, fun e => ⟨h8, ?_⟩, fun e h => ?_⟩
       · rw [show (k + 1).toNat = k.toNat + 1 by omega, hs]; simpa using e
       · have h10 := congrArg (List.take (k.toNat + 1)) h
         rw [List.take_take, List.take_take, Nat.min_eq_left (by omega), Nat.min_eq_left (by omega), hs] at h10
         simp at e; exact e h10
     · rw [wrap_small (by omega) (by omega), hb]
       simp only [if_pos]
       split <;> omega
   · subst hb
     have hk' : k = a := by omega
     subst hk'
     rw [← h8]
     simp [h9]
 · have h8 := h7 hb
   subst hb
   simp [h8]
set_option maxHeartbeats 1000000 in
theorem tmod_cases (x n : Int) (h : 0 < n) : -n < x.tmod n ∧ x.tmod n < n ∧ (x.tmod n < 0 → x.tmod n + n = x.emod n) ∧ (0 ≤ x.tmod n → x.tmod n = x.emod n) := by
 have h1 := Int.tmod_eq_emod (a := x) (b := n)
 have h2 := Int.emod_nonneg x (Int.ne_of_gt h)
 have h3 := Int.emod_lt_of_pos x h
 have h5 : x.emod n = x % n := rfl
 rw [h5]
 split at h1
 · exact ⟨by omega, by omega, by omega, by omega⟩
 · rename_i hc
   have h4 : x % n ≠ 0 := fun e => hc (.inr (Int.dvd_of_emod_eq_zero e))
   exact ⟨by omega, by omega, by omega, by omega⟩
set_option maxHeartbeats 1000000 in
theorem vPick (P : Program) : ∀ ins, ins.length = cPick.nin → cPick.pre ins → tPick.sat (cxW P) (ctrR cPick) ins := by
 rintro ins _ ⟨x, n, rfl, h1, h2⟩
 simp only [Tree.sat, Bx.den, Ex.den, Bnd.den, gI, gB, gL, gF, gN, gNil, List.map_cons, List.map_nil, List.cons_append, List.nil_append, List.getElem?_cons_zero, List.getElem?_cons_succ, List.getD, Option.getD_some, cmp_eql_t, cmp_eql_f, cmp_neq_t, cmp_neq_f, cmp_lss_t, cmp_lss_f, cmp_leq_t, cmp_leq_f, cmp_gtr_t, cmp_gtr_f, cmp_geq_t, cmp_geq_f, Bool.not_eq_true', Bool.not_eq_false', Bool.and_eq_true, Bool.and_eq_false_iff, binDen, ctrR, Ctr.may, List.take_succ_cons, List.take_zero, Option.some.injEq, EV.u.injEq, tPick, cxW, cx, objs, cPick]
 obtain ⟨h3, h4, h5, h6⟩ := tmod_cases x n h1
 refine ⟨fun g => by omega, fun g => ⟨by omega, fun g2 => ?_, fun g2 => ?_⟩⟩
 · rw [wrap_small (by omega) (by omega), h5 g2]
 · rw [h6 g2]
theorem hWords : cWords.Holds objs Tryz.prog := runCtr_holds (X := cxW Tryz.prog) objsOk mixed noCts (callable _ Tryz.func36 (by kernel_rfl) (by kernel_rfl)) (by rintro ins _ ⟨M, rfl⟩; rfl) (by rw [rWords]; exact vWords _)
theorem hSameWords : cSameWords.Holds objs Tryz.prog := runCtr_holds (X := cxW Tryz.prog) objsOk mixed noCts (callable _ Tryz.func35 (by kernel_rfl) (by kernel_rfl)) (by rintro ins _ ⟨xs, ys, a, b, c, d, rfl, _⟩; rfl) (by rw [rSameWords]; exact vSameWords _)
theorem hPick : cPick.Holds objs Tryz.prog := runCtr_holds (X := cxW Tryz.prog) objsOk mixed noCts (callable _ Tryz.func21 (by kernel_rfl) (by kernel_rfl)) (by rintro ins _ ⟨x, n, rfl, _⟩; rfl) (by rw [rPick]; exact vPick _)
section
variable {M : MemSt} {at_ x y : Int}
theorem load_in (h : 0 ≤ at_) (h' : at_ < M.W.length) : M.load at_ = ⟨M.W, 1, at_, M.W[at_.toNat]?.getD 0, M.W[at_.toNat]?.getD 0, false, IntKind.i64.wrap (M.N + 1)⟩ := by
 have e : M.is at_ = true := by simp [MemSt.is]; omega
 have h1 : M.W.set at_.toNat (M.W[at_.toNat]?.getD 0) = M.W := by
  apply List.ext_getElem?
  intro j
  by_cases hj : at_.toNat = j
  · subst hj
    rw [List.getElem?_set_self (by omega), List.getElem?_eq_getElem (by omega)]
    rfl
  · rw [List.getElem?_set_ne hj]
 simp [MemSt.load, MemSt.acc, e, MemSt.word, List.getD, h1]
theorem load_out (h : at_ < 0 ∨ M.W.length ≤ at_) : M.load at_ = ⟨M.W, 1, at_, 0, 0, false, IntKind.i64.wrap (M.N + 1)⟩ := by
 have e : M.is at_ = false := by simp [MemSt.is]; omega
 simp [MemSt.load, MemSt.acc, e]
theorem store_in (h : 0 ≤ at_) (h' : at_ < M.W.length) : M.store at_ x = ⟨M.W.set at_.toNat x, 2, at_, M.W[at_.toNat]?.getD 0, x, true, IntKind.i64.wrap (M.N + 1)⟩ := by
 have e : M.is at_ = true := by simp [MemSt.is]; omega
 simp [MemSt.store, MemSt.acc, e, MemSt.word, List.getD]
theorem store_out (h : at_ < 0 ∨ M.W.length ≤ at_) : M.store at_ x = ⟨M.W, 2, at_, 0, 0, false, IntKind.i64.wrap (M.N + 1)⟩ := by
 have e : M.is at_ = false := by simp [MemSt.is]; omega
 simp [MemSt.store, MemSt.acc, e]
theorem add_in (h : 0 ≤ at_) (h' : at_ < M.W.length) : M.add at_ x = ⟨M.W.set at_.toNat (IntKind.u64.wrap (M.W[at_.toNat]?.getD 0 + x)), 4, at_, M.W[at_.toNat]?.getD 0, IntKind.u64.wrap (M.W[at_.toNat]?.getD 0 + x), true, IntKind.i64.wrap (M.N + 1)⟩ := by
 have e : M.is at_ = true := by simp [MemSt.is]; omega
 simp [MemSt.add, MemSt.acc, e, MemSt.word, List.getD]
theorem add_out (h : at_ < 0 ∨ M.W.length ≤ at_) : M.add at_ x = ⟨M.W, 4, at_, 0, 0, false, IntKind.i64.wrap (M.N + 1)⟩ := by
 have e : M.is at_ = false := by simp [MemSt.is]; omega
 simp [MemSt.add, MemSt.acc, e]
theorem cas_is (h : 0 ≤ at_) (h' : at_ < M.W.length) (hx : M.W[at_.toNat]?.getD 0 = x) : M.cas at_ x y = ⟨M.W.set at_.toNat y, 3, at_, x, y, true, IntKind.i64.wrap (M.N + 1)⟩ := by
 have e : M.is at_ = true := by simp [MemSt.is]; omega
 simp [MemSt.cas, MemSt.acc, e, MemSt.word, List.getD, hx]
theorem cas_not (h : 0 ≤ at_) (h' : at_ < M.W.length) (hx : ¬ M.W[at_.toNat]?.getD 0 = x) : M.cas at_ x y = ⟨M.W, 3, at_, M.W[at_.toNat]?.getD 0, M.W[at_.toNat]?.getD 0, false, IntKind.i64.wrap (M.N + 1)⟩ := by
 have e : M.is at_ = true := by simp [MemSt.is]; omega
 have h1 : M.W.set at_.toNat (M.W[at_.toNat]?.getD 0) = M.W := by
  apply List.ext_getElem?
  intro j
  by_cases hj : at_.toNat = j
  · subst hj
    rw [List.getElem?_set_self (by omega), List.getElem?_eq_getElem (by omega)]
    rfl
  · rw [List.getElem?_set_ne hj]
 simp [MemSt.cas, MemSt.acc, e, MemSt.word, List.getD, hx, h1]
theorem cas_out (h : at_ < 0 ∨ M.W.length ≤ at_) : M.cas at_ x y = ⟨M.W, 3, at_, 0, 0, false, IntKind.i64.wrap (M.N + 1)⟩ := by
 have e : M.is at_ = false := by simp [MemSt.is]; omega
 unfold MemSt.cas
 split <;> simp [MemSt.acc, e]
end
theorem cmp_is {a b : Int} (h : a = b) : cmpDen .eql a b = true := (cmp_eql_t _ _).mpr h
theorem cmp_isnt {a b : Int} (h : ¬ a = b) : cmpDen .eql a b = false := (cmp_eql_f _ _).mpr h
theorem set_get {W : List Int} {j : Nat} {x : Int} (h : j < W.length) : (W.set j x)[j]?.getD 0 = x := by rw [List.getElem?_set_self h]; rfl
def cQNew : Ctr U :=
 { fn := 92, nin := 1, args := [.int .i64 (.var 0)], heap := []
   pre := fun ins => ∃ n, ins = [.i n], nout := 2
   out := fun ins => match ins with | [.i n] => if 1 ≤ n ∧ n ≤ 4096 then [.u (.rmem (.new n)), .i 0] else [.u .rmemNil, .i 3] | _ => []
   ret := .tuple [.hnd 0, .int .i64 (.var 2)], post := [.abs 1] }
def cQLoad : Ctr U :=
 { fn := 177, nin := 2, args := [.hnd 0, .int .i64 (.var 1)], heap := [.abs 0]
   pre := fun ins => ∃ M at_, ins = [.u (.rmem M), .i at_] ∧ M.W.length ≤ 4096, nout := 2
   out := fun ins => match ins with | [.u (.rmem M), .i at_] => [.u (.rmem (M.load at_)), .i (M.load at_).n] | _ => []
   ret := .int .u64 (.var 3), post := [.abs 2] }
def cQStore : Ctr U :=
 { fn := 96, nin := 3, args := [.hnd 0, .int .i64 (.var 1), .int .u64 (.var 2)], heap := [.abs 0]
   pre := fun ins => ∃ M at_ x, ins = [.u (.rmem M), .i at_, .i x] ∧ M.W.length ≤ 4096, nout := 1
   out := fun ins => match ins with | [.u (.rmem M), .i at_, .i x] => [.u (.rmem (M.store at_ x))] | _ => []
   ret := .tuple [], post := [.abs 3] }
def cQCAS : Ctr U :=
 { fn := 229, nin := 4, args := [.hnd 0, .int .i64 (.var 1), .int .u64 (.var 2), .int .u64 (.var 3)], heap := [.abs 0]
   pre := fun ins => ∃ M at_ x y, ins = [.u (.rmem M), .i at_, .i x, .i y] ∧ M.W.length ≤ 4096, nout := 2
   out := fun ins => match ins with | [.u (.rmem M), .i at_, .i x, .i y] => [.u (.rmem (M.cas at_ x y)), .b (M.cas at_ x y).h] | _ => []
   ret := .bool (.var 5), post := [.abs 4] }
def cQLast : Ctr U :=
 { fn := 39, nin := 1, args := [.hnd 0], heap := [.abs 0]
   pre := fun ins => ∃ M, ins = [.u (.rmem M)], nout := 6
   out := fun ins => match ins with | [.u (.rmem M)] => [.u (.rmem M), .i M.k, .i M.a, .i M.o, .i M.n, .b M.h] | _ => []
   ret := .agg [.int .i64 (.var 2), .int .i64 (.var 3), .int .u64 (.var 4), .int .u64 (.var 5), .bool (.var 6)], post := [.abs 1] }
def cQCount : Ctr U :=
 { fn := 40, nin := 1, args := [.hnd 0], heap := [.abs 0]
   pre := fun ins => ∃ M, ins = [.u (.rmem M)], nout := 2
   out := fun ins => match ins with | [.u (.rmem M)] => [.u (.rmem M), .i M.N] | _ => []
   ret := .int .i64 (.var 2), post := [.abs 1] }
def cQWords : Ctr U :=
 { fn := 37, nin := 1, args := [.hnd 0], heap := [.abs 0]
   pre := fun ins => ∃ M, ins = [.u (.rmem M)] ∧ 1 ≤ M.W.length ∧ M.W.length ≤ 4096, nout := 4
   out := fun _ => []
   many := some fun c ins => match ins with | [.u (.rmem M)] => [.u (.rmem M), .l (M.W ++ c), .i M.W.length, .i ((M.W.length + c.length : Nat) : Int)] | _ => []
   ret := .slice 1 (.var 3) (.var 4), post := [.abs 1, .row .u64 85 2] }
def tQWords : Tree := (.and (.opn 0 3 (.need (.cmp .leq (.lit 0) (.var 2)) (.need (.cmp .leq (.var 2) (.len 1)) (.need (.cmp .leq (.var 2) (.lit 1000000)) (.br (.cmp .eql (.var 2) (.lit 0))
 (.ext (.lst []) (.ext (.mk 3 [.var 1, .ex (.var 2), .ex (.var 3), .ex (.var 4), .ex (.var 5), .ex (.var 6), .bx (.var 7), .ex (.var 8)]) (.ret [.var 10, .var 9, .ex (.lit 0), .ex (.lit 0)])))
 (.grow 1 (.var 2) (.ext (.mk 3 [.var 1, .ex (.var 2), .ex (.var 3), .ex (.var 4), .ex (.var 5), .ex (.var 6), .bx (.var 7), .ex (.var 8)]) (.ret [.var 11, .var 9, .ex (.var 2), .ex (.var 10)]))))))))
 (.nomore 0 [3]))
theorem rQWords : runCtr (cx Tryz.prog []) 20 cQWords [(0, [3])] [(0, [3])] = tQWords := by kernel_rfl
def tQLoad : Tree := (.and (.opn 0 3 (.br (.cmp .lss (.var 1) (.lit 0))
 (.ext (.mk 3 [.var 2, .ex (.var 3), .ex (.lit 1), .ex (.var 1), .ex (.lit 0), .ex (.lit 0), .bx (.lit false), .ex (.bin .add .i64 (.var 9) (.lit 1))]) (.ret [.var 10, .ex (.lit 0)]))
 (.need (.cmp .leq (.lit 0) (.var 3)) (.br (.cmp .geq (.var 1) (.var 3))
 (.ext (.mk 3 [.var 2, .ex (.var 3), .ex (.lit 1), .ex (.var 1), .ex (.lit 0), .ex (.lit 0), .bx (.lit false), .ex (.bin .add .i64 (.var 9) (.lit 1))]) (.ret [.var 10, .ex (.lit 0)]))
 (.need (.cmp .leq (.lit 0) (.var 1)) (.need (.cmp .lss (.var 1) (.var 3)) (.need (.cmp .lss (.var 1) (.len 2)) (.need (.cmp .leq (.lit 0) (.var 1)) (.need (.cmp .lss (.var 1) (.len 2)) (.need (.cmp .leq (.lit 0) (.var 1)) (.need (.cmp .lss (.var 1) (.var 3)) (.need (.cmp .lss (.var 1) (.len 2)) (.need (.cmp .leq (.lit 0) (.var 1)) (.need (.cmp .lss (.var 1) (.len 2)) (.ext (.mk 3 [.var 2, .ex (.var 3), .ex (.lit 1), .ex (.var 1), .ex (.nth 2 (.var 1)), .ex (.nth 2 (.var 1)), .bx (.lit false), .ex (.bin .add .i64 (.var 9) (.lit 1))]) (.ret [.var 10, .ex (.nth 2 (.var 1))]))))))))))))))))
 (.nomore 0 [3]))
theorem rQLoad : runCtr (cx Tryz.prog []) 20 cQLoad [(0, [3])] [(0, [3])] = tQLoad := by kernel_rfl
def tQStore : Tree := (.and (.opn 0 3 (.br (.cmp .lss (.var 1) (.lit 0))
 (.ext (.mk 3 [.var 3, .ex (.var 4), .ex (.lit 2), .ex (.var 1), .ex (.lit 0), .ex (.lit 0), .bx (.lit false), .ex (.bin .add .i64 (.var 10) (.lit 1))]) (.ret [.var 11]))
 (.need (.cmp .leq (.lit 0) (.var 4)) (.br (.cmp .geq (.var 1) (.var 4))
 (.ext (.mk 3 [.var 3, .ex (.var 4), .ex (.lit 2), .ex (.var 1), .ex (.lit 0), .ex (.lit 0), .bx (.lit false), .ex (.bin .add .i64 (.var 10) (.lit 1))]) (.ret [.var 11]))
 (.need (.cmp .leq (.lit 0) (.var 1)) (.need (.cmp .lss (.var 1) (.var 4)) (.need (.cmp .lss (.var 1) (.len 3)) (.need (.cmp .leq (.lit 0) (.var 1)) (.need (.cmp .lss (.var 1) (.len 3)) (.need (.cmp .leq (.lit 0) (.var 1)) (.need (.cmp .lss (.var 1) (.var 4)) (.need (.cmp .lss (.var 1) (.len 3)) (.need (.cmp .leq (.lit 0) (.var 1)) (.need (.cmp .lss (.var 1) (.len 3)) (.ext (.setl 3 (.var 1) (.var 2)) (.need (.cmp .leq (.lit 0) (.var 1)) (.need (.cmp .lss (.var 1) (.var 4)) (.need (.cmp .lss (.var 1) (.len 11)) (.need (.cmp .leq (.lit 0) (.var 1)) (.need (.cmp .lss (.var 1) (.len 11)) (.ext (.mk 3 [.var 11, .ex (.var 4), .ex (.lit 2), .ex (.var 1), .ex (.nth 3 (.var 1)), .ex (.nth 11 (.var 1)), .bx (.lit true), .ex (.bin .add .i64 (.var 10) (.lit 1))]) (.ret [.var 12]))))))))))))))))))))))
 (.nomore 0 [3]))
theorem rQStore : runCtr (cx Tryz.prog []) 20 cQStore [(0, [3])] [(0, [3])] = tQStore := by kernel_rfl
def tQCAS : Tree := (.and (.opn 0 3 (.br (.cmp .lss (.var 1) (.lit 0))
 (.ext (.mk 3 [.var 4, .ex (.var 5), .ex (.lit 3), .ex (.var 1), .ex (.lit 0), .ex (.lit 0), .bx (.lit false), .ex (.bin .add .i64 (.var 11) (.lit 1))]) (.ret [.var 12, .bx (.lit false)]))
 (.need (.cmp .leq (.lit 0) (.var 5)) (.br (.cmp .geq (.var 1) (.var 5))
 (.need (.cmp .leq (.lit 0) (.var 5)) (.ext (.mk 3 [.var 4, .ex (.var 5), .ex (.lit 3), .ex (.var 1), .ex (.lit 0), .ex (.lit 0), .bx (.lit false), .ex (.bin .add .i64 (.var 11) (.lit 1))]) (.ret [.var 12, .bx (.lit false)])))
 (.need (.cmp .leq (.lit 0) (.var 1)) (.need (.cmp .lss (.var 1) (.var 5)) (.need (.cmp .lss (.var 1) (.len 4)) (.need (.cmp .leq (.lit 0) (.var 1)) (.need (.cmp .lss (.var 1) (.len 4)) (.need (.cmp .leq (.lit 0) (.var 5)) (.need (.cmp .leq (.lit 0) (.var 1)) (.need (.cmp .lss (.var 1) (.var 5)) (.need (.cmp .lss (.var 1) (.len 4)) (.need (.cmp .leq (.lit 0) (.var 1)) (.need (.cmp .lss (.var 1) (.len 4)) (.br (.cmp .eql (.nth 4 (.var 1)) (.var 2))
 (.need (.cmp .leq (.lit 0) (.var 1)) (.need (.cmp .lss (.var 1) (.var 5)) (.need (.cmp .lss (.var 1) (.len 4)) (.need (.cmp .leq (.lit 0) (.var 1)) (.need (.cmp .lss (.var 1) (.len 4)) (.ext (.setl 4 (.var 1) (.var 3)) (.need (.cmp .leq (.lit 0) (.var 1)) (.need (.cmp .lss (.var 1) (.var 5)) (.need (.cmp .lss (.var 1) (.len 12)) (.need (.cmp .leq (.lit 0) (.var 1)) (.need (.cmp .lss (.var 1) (.len 12)) (.ext (.mk 3 [.var 12, .ex (.var 5), .ex (.lit 3), .ex (.var 1), .ex (.nth 4 (.var 1)), .ex (.nth 12 (.var 1)), .bx (.cmp .eql (.nth 4 (.var 1)) (.var 2)), .ex (.bin .add .i64 (.var 11) (.lit 1))]) (.ret [.var 13, .bx (.cmp .eql (.nth 4 (.var 1)) (.var 2))])))))))))))))
 (.need (.cmp .leq (.lit 0) (.var 1)) (.need (.cmp .lss (.var 1) (.var 5)) (.need (.cmp .lss (.var 1) (.len 4)) (.need (.cmp .leq (.lit 0) (.var 1)) (.need (.cmp .lss (.var 1) (.len 4)) (.ext (.mk 3 [.var 4, .ex (.var 5), .ex (.lit 3), .ex (.var 1), .ex (.nth 4 (.var 1)), .ex (.nth 4 (.var 1)), .bx (.cmp .eql (.nth 4 (.var 1)) (.var 2)), .ex (.bin .add .i64 (.var 11) (.lit 1))]) (.ret [.var 12, .bx (.cmp .eql (.nth 4 (.var 1)) (.var 2))])))))))))))))))))))))))
 (.nomore 0 [3]))
theorem rQCAS : runCtr (cx Tryz.prog []) 20 cQCAS [(0, [3])] [(0, [3])] = tQCAS := by kernel_rfl
def tQLast : Tree := (.and (.opn 0 3 (.ext (.mk 3 [.var 1, .ex (.var 2), .ex (.var 3), .ex (.var 4), .ex (.var 5), .ex (.var 6), .bx (.var 7), .ex (.var 8)]) (.ret [.var 9, .ex (.var 3), .ex (.var 4), .ex (.var 5), .ex (.var 6), .bx (.var 7)])))
 (.nomore 0 [3]))
theorem rQLast : runCtr (cx Tryz.prog []) 20 cQLast [(0, [3])] [(0, [3])] = tQLast := by kernel_rfl
def tQCount : Tree := (.and (.opn 0 3 (.ext (.mk 3 [.var 1, .ex (.var 2), .ex (.var 3), .ex (.var 4), .ex (.var 5), .ex (.var 6), .bx (.var 7), .ex (.var 8)]) (.ret [.var 9, .ex (.var 8)])))
 (.nomore 0 [3]))
theorem rQCount : runCtr (cx Tryz.prog []) 20 cQCount [(0, [3])] [(0, [3])] = tQCount := by kernel_rfl
def tQNew : Tree := (.br (.cmp .lss (.var 0) (.lit 1))
 (.ext (.mk 4 []) (.ret [.var 1, .ex (.lit 3)]))
 (.br (.cmp .gtr (.var 0) (.lit 4096))
 (.ext (.mk 4 []) (.ret [.var 1, .ex (.lit 3)]))
 (.need (.cmp .leq (.lit 0) (.var 0)) (.need (.cmp .leq (.var 0) (.lit 1000000)) (.ext (.repl (.var 0) (.lit 0)) (.ext (.mk 3 [.var 1, .ex (.var 0), .ex (.lit 0), .ex (.lit 0), .ex (.lit 0), .ex (.lit 0), .bx (.lit false), .ex (.lit 0)]) (.ret [.var 2, .ex (.lit 0)])))))))
theorem rQNew : runCtr (cx Tryz.prog []) 20 cQNew [] [(0, [3, 4])] = tQNew := by kernel_rfl
theorem nomore_rmem {M : MemSt} : ∀ (t : Nat) (T : ObjT U) (ps : List (EV U)), objs[t]? = some T → t ∉ [3] → ps.length = T.nv → T.ok ps → some (EV.u (U.rmem M)) ≠ some (EV.u (T.obj ps)) := by
 exact nomore_kind (by show ∀ t, t < 61 → t ∉ [3] → kinds.getD t 0 ≠ 4; decide)
theorem rmemOk_mk {l : List Int} {s k a o n N : Int} {h : Bool} (e : (l.length : Int) = s) : rmemOk [.l l, .i s, .i k, .i a, .i o, .i n, .b h, .i N] := ⟨_, _, _, _, _, _, _, _, rfl, e⟩
set_option maxHeartbeats 1000000 in
theorem vQLoad (P : Program) (hs : List (Nat × Nat × List Nat)) : ∀ ins, ins.length = cQLoad.nin → cQLoad.pre ins → tQLoad.sat { cx P [] with hints := hs } (ctrR cQLoad) ins := by
 rintro ins _ ⟨M, at_, rfl, hM⟩
 simp only [Tree.sat, Bx.den, Ex.den, Bnd.den, gI, gB, gL, gF, gN, gNil, List.map_cons, List.map_nil, List.cons_append, List.nil_append, List.getElem?_cons_zero, List.getElem?_cons_succ, List.getD, Option.getD_some, cmp_eql_t, cmp_eql_f, cmp_neq_t, cmp_neq_f, cmp_lss_t, cmp_lss_f, cmp_leq_t, cmp_leq_f, cmp_gtr_t, cmp_gtr_f, cmp_geq_t, cmp_geq_f, Bool.not_eq_true', Bool.not_eq_false', Bool.and_eq_true, Bool.and_eq_false_iff, binDen, ctrR, Ctr.may, List.take_succ_cons, List.take_zero, Option.some.injEq, EV.u.injEq, tQLoad, cx, objs]
 refine ⟨?_, nomore_rmem⟩
 rintro ps hl ⟨l, s, k, a, o, n, h, N, rfl, hlen⟩ he
 injection he with he; subst he
 have hM : l.length ≤ 4096 := hM
 simp only [Tree.sat, Bx.den, Ex.den, Bnd.den, gI, gB, gL, gF, gN, gNil, List.map_cons, List.map_nil, List.cons_append, List.nil_append, List.getElem?_cons_zero, List.getElem?_cons_succ, List.getD, Option.getD_some, cmp_eql_t, cmp_eql_f, cmp_neq_t, cmp_neq_f, cmp_lss_t, cmp_lss_f, cmp_leq_t, cmp_leq_f, cmp_gtr_t, cmp_gtr_f, cmp_geq_t, cmp_geq_f, Bool.not_eq_true', Bool.not_eq_false', Bool.and_eq_true, Bool.and_eq_false_iff, binDen, ctrR, Ctr.may, List.take_succ_cons, List.take_zero, Option.some.injEq, EV.u.injEq, rmemT, rmemObj, cQLoad, List.length_set]
 repeat' (first | with_reducible apply And.intro | intro _)
 all_goals first
  | omega
  | exact rmemOk_mk (by simpa using hlen)
  | trivial
  | (rw [load_out (M := ⟨l, k, a, o, n, h, N⟩) (by show at_ < 0 ∨ (l.length : Int) ≤ at_; omega)])
  | (rw [load_in (M := ⟨l, k, a, o, n, h, N⟩) (by omega) (by show at_ < (l.length : Int); omega)])
set_option maxHeartbeats 1000000 in
theorem vQStore (P : Program) (hs : List (Nat × Nat × List Nat)) : ∀ ins, ins.length = cQStore.nin → cQStore.pre ins → tQStore.sat { cx P [] with hints := hs } (ctrR cQStore) ins := by
 rintro ins _ ⟨M, at_, x, rfl, hM⟩
 simp only [Tree.sat, Bx.den, Ex.den, Bnd.den, gI, gB, gL, gF, gN, gNil, List.map_cons, List.map_nil, List.cons_append, List.nil_append, List.getElem?_cons_zero, List.getElem?_cons_succ, List.getD, Option.getD_some, cmp_eql_t, cmp_eql_f, cmp_neq_t, cmp_neq_f, cmp_lss_t, cmp_lss_f, cmp_leq_t, cmp_leq_f, cmp_gtr_t, cmp_gtr_f, cmp_geq_t, cmp_geq_f, Bool.not_eq_true', Bool.not_eq_false', Bool.and_eq_true, Bool.and_eq_false_iff, binDen, ctrR, Ctr.may, List.take_succ_cons, List.take_zero, Option.some.injEq, EV.u.injEq, tQStore, cx, objs]
 refine ⟨?_, nomore_rmem⟩
 rintro ps hl ⟨l, s, k, a, o, n, h, N, rfl, hlen⟩ he
 injection he with he; subst he
 have hM : l.length ≤ 4096 := hM
 simp only [Tree.sat, Bx.den, Ex.den, Bnd.den, gI, gB, gL, gF, gN, gNil, List.map_cons, List.map_nil, List.cons_append, List.nil_append, List.getElem?_cons_zero, List.getElem?_cons_succ, List.getD, Option.getD_some, cmp_eql_t, cmp_eql_f, cmp_neq_t, cmp_neq_f, cmp_lss_t, cmp_lss_f, cmp_leq_t, cmp_leq_f, cmp_gtr_t, cmp_gtr_f, cmp_geq_t, cmp_geq_f, Bool.not_eq_true', Bool.not_eq_false', Bool.and_eq_true, Bool.and_eq_false_iff, binDen, ctrR, Ctr.may, List.take_succ_cons, List.take_zero, Option.some.injEq, EV.u.injEq, rmemT, rmemObj, cQStore, List.length_set]
 repeat' (first | with_reducible apply And.intro | intro _)
 all_goals first
  | omega
  | exact rmemOk_mk (by simpa using hlen)
  | trivial
  | (rw [store_out (M := ⟨l, k, a, o, n, h, N⟩) (by show at_ < 0 ∨ (l.length : Int) ≤ at_; omega)])
  | (rw [store_in (M := ⟨l, k, a, o, n, h, N⟩) (by omega) (by show at_ < (l.length : Int); omega), set_get (by omega)])
set_option maxHeartbeats 1000000 in
theorem vQCAS (P : Program) (hs : List (Nat × Nat × List Nat)) : ∀ ins, ins.length = cQCAS.nin → cQCAS.pre ins → tQCAS.sat { cx P [] with hints := hs } (ctrR cQCAS) ins := by
 rintro ins _ ⟨M, at_, x, y, rfl, hM⟩
 simp only [Tree.sat, Bx.den, Ex.den, Bnd.den, gI, gB, gL, gF, gN, gNil, List.map_cons, List.map_nil, List.cons_append, List.nil_append, List.getElem?_cons_zero, List.getElem?_cons_succ, List.getD, Option.getD_some, cmp_eql_t, cmp_eql_f, cmp_neq_t, cmp_neq_f, cmp_lss_t, cmp_lss_f, cmp_leq_t, cmp_leq_f, cmp_gtr_t, cmp_gtr_f, cmp_geq_t, cmp_geq_f, Bool.not_eq_true', Bool.not_eq_false', Bool.and_eq_true, Bool.and_eq_false_iff, binDen, ctrR, Ctr.may, List.take_succ_cons, List.take_zero, Option.some.injEq, EV.u.injEq, tQCAS, cx, objs]
 refine ⟨?_, nomore_rmem⟩
 rintro ps hl ⟨l, s, k, a, o, n, h, N, rfl, hlen⟩ he
 injection he with he; subst he
 have hM : l.length ≤ 4096 := hM
 simp only [Tree.sat, Bx.den, Ex.den, Bnd.den, gI, gB, gL, gF, gN, gNil, List.map_cons, List.map_nil, List.cons_append, List.nil_append, List.getElem?_cons_zero, List.getElem?_cons_succ, List.getD, Option.getD_some, cmp_eql_t, cmp_eql_f, cmp_neq_t, cmp_neq_f, cmp_lss_t, cmp_lss_f, cmp_leq_t, cmp_leq_f, cmp_gtr_t, cmp_gtr_f, cmp_geq_t, cmp_geq_f, Bool.not_eq_true', Bool.not_eq_false', Bool.and_eq_true, Bool.and_eq_false_iff, binDen, ctrR, Ctr.may, List.take_succ_cons, List.take_zero, Option.some.injEq, EV.u.injEq, rmemT, rmemObj, cQCAS, List.length_set]
 repeat' (first | with_reducible apply And.intro | intro _)
 all_goals first
  | omega
  | exact rmemOk_mk (by simpa using hlen)
  | trivial
  | (rw [cas_out (M := ⟨l, k, a, o, n, h, N⟩) (by show at_ < 0 ∨ (l.length : Int) ≤ at_; omega)])
  | (rename_i hx; rw [cas_is (M := ⟨l, k, a, o, n, h, N⟩) (by omega) (by show at_ < (l.length : Int); omega) hx, set_get (by omega), cmp_is hx, hx]; done)
  | (rename_i hx; rw [cas_not (M := ⟨l, k, a, o, n, h, N⟩) (by omega) (by show at_ < (l.length : Int); omega) hx, cmp_isnt hx])
set_option maxHeartbeats 1000000 in
theorem vQLast (P : Program) (hs : List (Nat × Nat × List Nat)) : ∀ ins, ins.length = cQLast.nin → cQLast.pre ins → tQLast.sat { cx P [] with hints := hs } (ctrR cQLast) ins := by
 rintro ins _ ⟨M, rfl⟩
 simp only [Tree.sat, Bx.den, Ex.den, Bnd.den, gI, gB, gL, gF, gN, gNil, List.map_cons, List.map_nil, List.cons_append, List.nil_append, List.getElem?_cons_zero, List.getElem?_cons_succ, List.getD, Option.getD_some, cmp_eql_t, cmp_eql_f, cmp_neq_t, cmp_neq_f, cmp_lss_t, cmp_lss_f, cmp_leq_t, cmp_leq_f, cmp_gtr_t, cmp_gtr_f, cmp_geq_t, cmp_geq_f, Bool.not_eq_true', Bool.not_eq_false', Bool.and_eq_true, Bool.and_eq_false_iff, binDen, ctrR, Ctr.may, List.take_succ_cons, List.take_zero, Option.some.injEq, EV.u.injEq, tQLast, cx, objs]
 refine ⟨?_, nomore_rmem⟩
 rintro ps hl ⟨l, s, k, a, o, n, h, N, rfl, hlen⟩ he
 injection he with he; subst he
 simp only [Tree.sat, Bx.den, Ex.den, Bnd.den, gI, gB, gL, gF, gN, gNil, List.map_cons, List.map_nil, List.cons_append, List.nil_append, List.getElem?_cons_zero, List.getElem?_cons_succ, List.getD, Option.getD_some, cmp_eql_t, cmp_eql_f, cmp_neq_t, cmp_neq_f, cmp_lss_t, cmp_lss_f, cmp_leq_t, cmp_leq_f, cmp_gtr_t, cmp_gtr_f, cmp_geq_t, cmp_geq_f, Bool.not_eq_true', Bool.not_eq_false', Bool.and_eq_true, Bool.and_eq_false_iff, binDen, ctrR, Ctr.may, List.take_succ_cons, List.take_zero, Option.some.injEq, EV.u.injEq, rmemT, rmemObj, cQLast, List.length_set]
 repeat' (first | with_reducible apply And.intro | intro _)
 all_goals first
  | omega
  | exact rmemOk_mk (by simpa using hlen)
  | trivial
set_option maxHeartbeats 1000000 in
theorem vQCount (P : Program) (hs : List (Nat × Nat × List Nat)) : ∀ ins, ins.length = cQCount.nin → cQCount.pre ins → tQCount.sat { cx P [] with hints := hs } (ctrR cQCount) ins := by
 rintro ins _ ⟨M, rfl⟩
 simp only [Tree.sat, Bx.den, Ex.den, Bnd.den, gI, gB, gL, gF, gN, gNil, List.map_cons, List.map_nil, List.cons_append, List.nil_append, List.getElem?_cons_zero, List.getElem?_cons_succ, List.getD, Option.getD_some, cmp_eql_t, cmp_eql_f, cmp_neq_t, cmp_neq_f, cmp_lss_t, cmp_lss_f, cmp_leq_t, cmp_leq_f, cmp_gtr_t, cmp_gtr_f, cmp_geq_t, cmp_geq_f, Bool.not_eq_true', Bool.not_eq_false', Bool.and_eq_true, Bool.and_eq_false_iff, binDen, ctrR, Ctr.may, List.take_succ_cons, List.take_zero, Option.some.injEq, EV.u.injEq, tQCount, cx, objs]
 refine ⟨?_, nomore_rmem⟩
 rintro ps hl ⟨l, s, k, a, o, n, h, N, rfl, hlen⟩ he
 injection he with he; subst he
 simp only [Tree.sat, Bx.den, Ex.den, Bnd.den, gI, gB, gL, gF, gN, gNil, List.map_cons, List.map_nil, List.cons_append, List.nil_append, List.getElem?_cons_zero, List.getElem?_cons_succ, List.getD, Option.getD_some, cmp_eql_t, cmp_eql_f, cmp_neq_t, cmp_neq_f, cmp_lss_t, cmp_lss_f, cmp_leq_t, cmp_leq_f, cmp_gtr_t, cmp_gtr_f, cmp_geq_t, cmp_geq_f, Bool.not_eq_true', Bool.not_eq_false', Bool.and_eq_true, Bool.and_eq_false_iff, binDen, ctrR, Ctr.may, List.take_succ_cons, List.take_zero, Option.some.injEq, EV.u.injEq, rmemT, rmemObj, cQCount, List.length_set]
 repeat' (first | with_reducible apply And.intro | intro _)
 all_goals first
  | omega
  | exact rmemOk_mk (by simpa using hlen)
  | trivial
set_option maxHeartbeats 1000000 in
theorem vQNew (P : Program) (hs : List (Nat × Nat × List Nat)) : ∀ ins, ins.length = cQNew.nin → cQNew.pre ins → tQNew.sat { cx P [] with hints := hs } (ctrR cQNew) ins := by
 rintro ins _ ⟨n, rfl⟩
 unfold tQNew
 simp only [Tree.sat, Bx.den, Ex.den, Bnd.den, gI, gB, gL, gF, gN, gNil, List.map_cons, List.map_nil, List.cons_append, List.nil_append, List.getElem?_cons_zero, List.getElem?_cons_succ, List.getD, Option.getD_some, cmp_eql_t, cmp_eql_f, cmp_neq_t, cmp_neq_f, cmp_lss_t, cmp_lss_f, cmp_leq_t, cmp_leq_f, cmp_gtr_t, cmp_gtr_f, cmp_geq_t, cmp_geq_f, Bool.not_eq_true', Bool.not_eq_false', Bool.and_eq_true, Bool.and_eq_false_iff, binDen, ctrR, Ctr.may, List.take_succ_cons, List.take_zero, Option.some.injEq, EV.u.injEq, rmemT, rmemNilT, rmemObj, cQNew, cx, objs, List.length_set]
 repeat' (first | with_reducible apply And.intro | intro _)
 all_goals first
  | omega
  | exact rmemOk_mk (by simp; omega)
  | trivial
  | (rw [if_neg (by omega)])
  | (rw [if_pos (by omega), MemSt.new])
set_option maxHeartbeats 1000000 in
theorem vQWords (P : Program) (hs : List (Nat × Nat × List Nat)) : ∀ ins, ins.length = cQWords.nin → cQWords.pre ins → tQWords.sat { cx P [] with hints := hs } (ctrR cQWords) ins := by
 rintro ins _ ⟨M, rfl, hM0, hM⟩
 simp only [Tree.sat, Bx.den, Ex.den, Bnd.den, gI, gB, gL, gF, gN, gNil, List.map_cons, List.map_nil, List.cons_append, List.nil_append, List.getElem?_cons_zero, List.getElem?_cons_succ, List.getD, Option.getD_some, cmp_eql_t, cmp_eql_f, cmp_neq_t, cmp_neq_f, cmp_lss_t, cmp_lss_f, cmp_leq_t, cmp_leq_f, cmp_gtr_t, cmp_gtr_f, cmp_geq_t, cmp_geq_f, Bool.not_eq_true', Bool.not_eq_false', Bool.and_eq_true, Bool.and_eq_false_iff, binDen, ctrR, Ctr.may, List.take_succ_cons, List.take_zero, Option.some.injEq, EV.u.injEq, tQWords, cx, objs]
 refine ⟨?_, nomore_rmem⟩
 rintro ps hl ⟨l, s, k, a, o, n, h, N, rfl, hlen⟩ he
 injection he with he; subst he
 have hM0 : 1 ≤ l.length := hM0
 have hM : l.length ≤ 4096 := hM
 simp only [Tree.sat, Bx.den, Ex.den, Bnd.den, gI, gB, gL, gF, gN, gNil, List.map_cons, List.map_nil, List.cons_append, List.nil_append, List.getElem?_cons_zero, List.getElem?_cons_succ, List.getD, Option.getD_some, cmp_eql_t, cmp_eql_f, cmp_neq_t, cmp_neq_f, cmp_lss_t, cmp_lss_f, cmp_leq_t, cmp_leq_f, cmp_gtr_t, cmp_gtr_f, cmp_geq_t, cmp_geq_f, Bool.not_eq_true', Bool.not_eq_false', Bool.and_eq_true, Bool.and_eq_false_iff, binDen, ctrR, Ctr.may, List.take_succ_cons, List.take_zero, Option.some.injEq, EV.u.injEq, rmemT, rmemObj, cQWords, List.length_set]
 repeat' (first | with_reducible apply And.intro | intro _)
 all_goals first
  | omega
  | exact rmemOk_mk (by simpa using hlen)
  | trivial
  | (rename_i c; refine ⟨List.replicate c 0, ?_⟩; rw [← hlen, Int.toNat_natCast, List.take_length, List.length_replicate])
  | (exfalso; omega)
theorem hQWords : cQWords.Holds objs Tryz.prog := runCtr_holdsm (X := cx Tryz.prog []) objsOk mixed noCts (callable _ Tryz.func37 (by kernel_rfl) (by kernel_rfl)) (by rintro ins outs _ ⟨_, rfl, _⟩ ⟨c, rfl⟩; rfl) (by rw [rQWords]; exact vQWords _ _)
theorem hQLoad : cQLoad.Holds objs Tryz.prog := runCtr_holds (X := cx Tryz.prog []) objsOk mixed noCts (callable _ Tryz.func177 (by kernel_rfl) (by kernel_rfl)) (by rintro ins _ ⟨_, _, rfl, _⟩; rfl) (by rw [rQLoad]; exact vQLoad _ _)
theorem hQStore : cQStore.Holds objs Tryz.prog := runCtr_holds (X := cx Tryz.prog []) objsOk mixed noCts (callable _ Tryz.func96 (by kernel_rfl) (by kernel_rfl)) (by rintro ins _ ⟨_, _, _, rfl, _⟩; rfl) (by rw [rQStore]; exact vQStore _ _)
theorem hQCAS : cQCAS.Holds objs Tryz.prog := runCtr_holds (X := cx Tryz.prog []) objsOk mixed noCts (callable _ Tryz.func229 (by kernel_rfl) (by kernel_rfl)) (by rintro ins _ ⟨_, _, _, _, rfl, _⟩; rfl) (by rw [rQCAS]; exact vQCAS _ _)
theorem hQLast : cQLast.Holds objs Tryz.prog := runCtr_holds (X := cx Tryz.prog []) objsOk mixed noCts (callable _ Tryz.func39 (by kernel_rfl) (by kernel_rfl)) (by rintro ins _ ⟨_, rfl⟩; rfl) (by rw [rQLast]; exact vQLast _ _)
theorem hQCount : cQCount.Holds objs Tryz.prog := runCtr_holds (X := cx Tryz.prog []) objsOk mixed noCts (callable _ Tryz.func40 (by kernel_rfl) (by kernel_rfl)) (by rintro ins _ ⟨_, rfl⟩; rfl) (by rw [rQCount]; exact vQCount _ _)
theorem hQNew : cQNew.Holds objs Tryz.prog := runCtr_holds (X := cx Tryz.prog []) objsOk mixed noCts (callable _ Tryz.func92 (by kernel_rfl) (by kernel_rfl)) (by rintro ins _ ⟨n, rfl⟩; simp only [cQNew]; split <;> rfl) (by rw [rQNew]; exact vQNew _ _)
end Go.Proofs.YtdldcofddfkkbaaGreat
