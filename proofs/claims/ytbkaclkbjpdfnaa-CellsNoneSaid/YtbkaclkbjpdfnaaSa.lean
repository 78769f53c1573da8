/- A symbolic executor for the model's code, its words: symbolic values, what they denote, blocks, trees of ways. No program is named here. -/
import Derived.OrdersHeld
import Derived.Laws.CopyRow
import Derived.Laws.Rows
import Derived.Below
import Derived.Scope
import Derived.KernelRfl
import Derived.Conc.MuLone
namespace Go.Proofs.Ytbkaclkbjpdfnaa
set_option linter.unusedVariables false
set_option linter.unusedSimpArgs false
set_option linter.unusedSectionVars false
open Go

class Nil (U : Type) where
  isNil : U → Bool

inductive EV (U : Type) where
  | i (n : Int)
  | b (x : Bool)
  | l (xs : List Int)
  | f (g : Nat → Nat → Int) (n : Nat)
  | u (s : U)

section
variable {U : Type}
def gI (env : List (EV U)) (i : Nat) : Int := match env[i]? with | some (.i n) => n | _ => 0
def gB (env : List (EV U)) (i : Nat) : Bool := match env[i]? with | some (.b x) => x | _ => false
def gL (env : List (EV U)) (i : Nat) : List Int := match env[i]? with | some (.l xs) => xs | _ => []
def gF (env : List (EV U)) (i : Nat) : Nat → Nat → Int := match env[i]? with | some (.f g _) => g | _ => fun _ _ => 0
def gN (env : List (EV U)) (i : Nat) : Nat := match env[i]? with | some (.f _ n) => n | _ => 0
def gNil [Nil U] (env : List (EV U)) (i : Nat) : Bool := match env[i]? with | some (.u s) => Nil.isNil s | _ => false
end

/-- numbers -/
inductive Ex where
  | lit (n : Int)
  | var (i : Nat)
  | bin (op : BinOp) (k : IntKind) (a b : Ex)
  | conv (k : IntKind) (a : Ex)
  | len (i : Nat)
  | nth (i : Nat) (e : Ex)
  | fld (i : Nat) (e : Ex) (c : Nat)
  | nrow (i : Nat)
  deriving Inhabited

def binDen (op : BinOp) (k : IntKind) (x y : Int) : Int :=
  match op with
  | .add => k.wrap (x + y)
  | .sub => k.wrap (x - y)
  | .mul => k.wrap (x * y)
  | .quo => k.wrap (x.tdiv y)
  | .rem => x.tmod y
  | .and | .or | .xor | .andNot => bits op k x y
  | .shl => k.wrap (x * 2 ^ min y.toNat k.bits)
  | .shr => x.fdiv (2 ^ min y.toNat k.bits)
  | _ => 0

def cmpDen (op : BinOp) (x y : Int) : Bool :=
  match op with
  | .eql => x == y
  | .neq => x != y
  | .lss => decide (x < y)
  | .leq => decide (x ≤ y)
  | .gtr => decide (x > y)
  | .geq => decide (x ≥ y)
  | _ => false

def Ex.den {U : Type} (env : List (EV U)) : Ex → Int
  | .lit n => n
  | .var i => gI env i
  | .bin op k a b => binDen op k (a.den env) (b.den env)
  | .conv k a => k.wrap (a.den env)
  | .len i => ((gL env i).length : Int)
  | .nth i e => (gL env i).getD (e.den env).toNat 0
  | .fld i e c => gF env i (e.den env).toNat c
  | .nrow i => (gN env i : Int)

/-- truths -/
inductive Bx where
  | lit (b : Bool)
  | var (i : Nat)
  | cmp (op : BinOp) (a b : Ex)
  | beq (a b : Bx)
  | not (a : Bx)
  | and (a b : Bx)
  | isnil (i : Nat)
  | fld (i : Nat) (e : Ex) (c : Nat)
  deriving Inhabited

def Bx.den {U : Type} [Nil U] (env : List (EV U)) : Bx → Bool
  | .lit b => b
  | .var i => gB env i
  | .cmp op a b => cmpDen op (a.den env) (b.den env)
  | .beq a b => a.den env == b.den env
  | .not a => !a.den env
  | .and a b => a.den env && b.den env
  | .isnil i => gNil env i
  | .fld i e c => gF env i (e.den env).toNat c != 0

def mkBin (op : BinOp) (k : IntKind) (a b : Ex) : Ex :=
  match a, b with
  | .lit x, .lit y => .lit (binDen op k x y)
  | _, _ => .bin op k a b
def mkConv (k : IntKind) (a : Ex) : Ex := match a with | .lit x => .lit (k.wrap x) | _ => .conv k a
def mkCmp (op : BinOp) (a b : Ex) : Bx :=
  match a, b with
  | .lit x, .lit y => .lit (cmpDen op x y)
  | _, _ => .cmp op a b
def mkNot (a : Bx) : Bx := match a with | .lit b => .lit (!b) | .not b => b | _ => .not a
def mkAnd (a b : Bx) : Bx :=
  match a, b with
  | .lit true, b => b
  | .lit false, _ => .lit false
  | a, .lit true => a
  | _, .lit false => .lit false
  | a, b => .and a b
def mkBeq (a b : Bx) : Bx :=
  match a, b with
  | .lit x, .lit y => .lit (x == y)
  | .lit true, b => b
  | a, .lit true => a
  | .lit false, b => mkNot b
  | a, .lit false => mkNot a
  | a, b => .beq a b

def Ex.beq : Ex → Ex → Bool
  | .lit a, .lit b => a == b
  | .var i, .var j => i == j
  | .bin op k a b, .bin op' k' a' b' => op == op' && k == k' && a.beq a' && b.beq b'
  | .conv k a, .conv k' a' => k == k' && a.beq a'
  | .len i, .len j => i == j
  | .nth i e, .nth j e' => i == j && e.beq e'
  | .fld i e c, .fld j e' c' => i == j && e.beq e' && c == c'
  | .nrow i, .nrow j => i == j
  | _, _ => false
def Bx.beq' : Bx → Bx → Bool
  | .lit a, .lit b => a == b
  | .var i, .var j => i == j
  | .cmp op a b, .cmp op' a' b' => op == op' && a.beq a' && b.beq b'
  | .beq a b, .beq a' b' => a.beq' a' && b.beq' b'
  | .not a, .not a' => a.beq' a'
  | .and a b, .and a' b' => a.beq' a' && b.beq' b'
  | .isnil i, .isnil j => i == j
  | .fld i e c, .fld j e' c' => i == j && e.beq e' && c == c'
  | _, _ => false

/-- values -/
inductive SV where
  | int (k : IntKind) (e : Ex)
  | bool (b : Bx)
  | nilp
  | ptr (n off : Nat)
  | ptrx (n : Nat) (e : Ex) (sz off : Nat)
  | hnd (n : Nat)
  | nils
  | slice (n : Nat) (len cap : Ex)
  | func (fn : Fn) (first captured : List SV)
  | nilf
  | agg (l : List SV)
  | tuple (l : List SV)
  | rowv (k : IntKind) (i : Nat)
  | junk
  deriving Inhabited

def hv (ρ : List Value) (n : Nat) : Value := ρ.getD n undef
def addrOf (v : Value) : Addr := match v with | .pointer (some a) => a | _ => ⟨0, 0, none⟩

mutual
def SV.den {U : Type} [Nil U] (env : List (EV U)) (ρ : List Value) : SV → Value
  | .int k e => .int k (e.den env)
  | .bool b => .bool (b.den env)
  | .nilp => .pointer none
  | .ptr n off => .pointer (some ((addrOf (hv ρ n)).add off))
  | .ptrx n e sz off => .pointer (some ((addrOf (hv ρ n)).add ((e.den env).toNat * sz + off)))
  | .hnd n => hv ρ n
  | .nils => .slice none 0 0
  | .slice n len cap => .slice (some (addrOf (hv ρ n))) (len.den env).toNat (cap.den env).toNat
  | .func fn a b => .func fn (SV.denL env ρ a).toArray (SV.denL env ρ b).toArray
  | .nilf => .nilFunc
  | .agg l => .agg (SV.denL env ρ l).toArray
  | .tuple l => .tuple (SV.denL env ρ l).toArray
  | .rowv k i => .agg ((gL env i).map (.int k)).toArray
  | .junk => undef
def SV.denL {U : Type} [Nil U] (env : List (EV U)) (ρ : List Value) : List SV → List Value
  | [] => []
  | v :: l => SV.den env ρ v :: SV.denL env ρ l
end

mutual
def SV.beq : SV → SV → Bool
  | .int k e, .int k' e' => k == k' && e.beq e'
  | .bool b, .bool b' => b.beq' b'
  | .nilp, .nilp => true
  | .ptr n o, .ptr n' o' => n == n' && o == o'
  | .ptrx n e s o, .ptrx n' e' s' o' => n == n' && e.beq e' && s == s' && o == o'
  | .hnd n, .hnd n' => n == n'
  | .nils, .nils => true
  | .slice n a b, .slice n' a' b' => n == n' && a.beq a' && b.beq b'
  | .func f a b, .func f' a' b' => decide (f = f') && SV.beqL a a' && SV.beqL b b'
  | .nilf, .nilf => true
  | .agg l, .agg l' => SV.beqL l l'
  | .tuple l, .tuple l' => SV.beqL l l'
  | .rowv k i, .rowv k' i' => k == k' && i == i'
  | .junk, .junk => true
  | _, _ => false
def SV.beqL : List SV → List SV → Bool
  | [], [] => true
  | a :: l, b :: m => SV.beq a b && SV.beqL l m
  | _, _ => false
end

mutual
def SV.sure : SV → Bool
  | .junk => false
  | .func _ a b => SV.sureL a && SV.sureL b
  | .agg l => SV.sureL l
  | .tuple l => SV.sureL l
  | .rowv .. => false
  | _ => true
def SV.sureL : List SV → Bool
  | [] => true
  | a :: l => a.sure && SV.sureL l
end
def SV.one : SV → Bool
  | .agg _ | .tuple _ | .junk | .hnd _ | .rowv .. => false
  | _ => true
/-- the cells of a value -/
def SV.flat : SV → List SV
  | .agg l => l
  | v => [v]

/-- blocks -/
inductive HE where
  | cells (vs : List SV) (t : TypeId)
  | abs (i : Nat)
  | row (k : IntKind) (t : TypeId) (i : Nat)
  | ro (ks : List (Option IntKind)) (i : Nat)
  | gone
  deriving Inhabited
def HE.beq : HE → HE → Bool
  | .cells a t, .cells b u => SV.beqL a b && t == u
  | .abs i, .abs j => i == j
  | .row k t i, .row k' t' i' => k == k' && t == t' && i == i'
  | .ro a i, .ro b j => decide (a = b) && i == j
  | .gone, .gone => true
  | _, _ => false

inductive Bnd where
  | ex (e : Ex)
  | bx (b : Bx)
  | var (i : Nat)
  deriving Inhabited
def Bnd.den {U : Type} [Nil U] (env : List (EV U)) : Bnd → EV U
  | .ex e => .i (e.den env)
  | .bx b => .b (b.den env)
  | .var i => env.getD i (.i 0)

inductive ED where
  | setl (i : Nat) (e x : Ex)
  | repl (n x : Ex)
  | mk (t : Nat) (ps : List Bnd)
  | lst (xs : List Ex)
  deriving Inhabited

/-- the ways of a run -/
inductive Tree where
  | ret (β : List Bnd)
  | br (c : Bx) (t f : Tree)
  | need (c : Bx) (k : Tree)
  | call (c : Nat) (β : List Bnd) (k : Tree)
  | ext (d : ED) (k : Tree)
  | and (a b : Tree)
  | ok
  | opn (i t : Nat) (k : Tree)
  | nomore (i : Nat) (ts : List Nat)
  | loop (id : Nat) (ne : Nat) (β : List Bnd) (k : Tree)
  | back (id : Nat) (ne : Nat) (β : List Bnd)
  | viol (n : Nat)
  | fail (why : String)
  deriving Inhabited

/-- a form of an object: its blocks, by what numbers, which object that is -/
structure ObjT (U : Type) where
  nv : Nat
  hp : List HE
  isNil : Bool
  ok : List (EV U) → Prop
  obj : List (EV U) → U

/-- a contract -/
structure Ctr (U : Type) where
  fn : FuncId
  nin : Nat
  args : List SV
  heap : List HE
  pre : List (EV U) → Prop
  nout : Nat
  out : List (EV U) → List (EV U)
  ret : SV
  post : List HE

/-- what holds at a loop's head -/
structure LoopS (U : Type) where
  fn : FuncId
  rid : Nat
  nv : Nat
  tm : List (Nat × SV)
  hp : List (Nat × HE)
  reb : List (Nat × Nat)
  inv : List (EV U) → Prop
  mu : List (EV U) → Nat

structure St where
  tm : List SV
  stk : List (List SV)
  hp : List HE
  ne : Nat
  deriving Inhabited

inductive SExit where
  | normal
  | exit (id : Nat)
  | ret
  deriving Inhabited
end Go.Proofs.Ytbkaclkbjpdfnaa
