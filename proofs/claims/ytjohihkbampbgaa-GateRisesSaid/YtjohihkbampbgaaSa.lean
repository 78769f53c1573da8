/- A symbolic executor for the model's code, its words: symbolic values, what they denote, blocks, trees of ways. No program is named here. -/
import Derived.OrdersHeld
import Derived.Laws.CopyRow
import Derived.Laws.Rows
import Derived.Below
import Derived.Scope
import Derived.KernelRfl
import Derived.Conc.MuLone
namespace Go.Proofs.Ytjohihkbampbgaa
set_option linter.unusedVariables false
set_option linter.unusedSimpArgs false
set_option linter.unusedSectionVars false
open Go

class Nil (U : Type) where
  isNil : U → Bool

inductive EV (U : Type) where
  | i (n : Int)
  | b (x : Bool)
  | l (xs : List Int)
  | f (g : Nat → Nat → Int) (n : Nat)
  | u (s : U)
  | r (L : Loop)

section
variable {U : Type}
def gI (env : List (EV U)) (i : Nat) : Int := match env[i]? with | some (.i n) => n | _ => 0
def gB (env : List (EV U)) (i : Nat) : Bool := match env[i]? with | some (.b x) => x | _ => false
def gL (env : List (EV U)) (i : Nat) : List Int := match env[i]? with | some (.l xs) => xs | _ => []
def gF (env : List (EV U)) (i : Nat) : Nat → Nat → Int := match env[i]? with | some (.f g _) => g | _ => fun _ _ => 0
def gN (env : List (EV U)) (i : Nat) : Nat := match env[i]? with | some (.f _ n) => n | _ => 0
def gNil [Nil U] (env : List (EV U)) (i : Nat) : Bool := match env[i]? with | some (.u s) => Nil.isNil s | _ => false
end

/-- numbers -/
inductive Ex where
  | lit (n : Int)
  | var (i : Nat)
  | bin (op : BinOp) (k : IntKind) (a b : Ex)
  | conv (k : IntKind) (a : Ex)
  | len (i : Nat)
  | nth (i : Nat) (e : Ex)
  | fld (i : Nat) (e : Ex) (c : Nat)
  | nrow (i : Nat)
  deriving Inhabited

def binDen (op : BinOp) (k : IntKind) (x y : Int) : Int :=
  match op with
  | .add => k.wrap (x + y)
  | .sub => k.wrap (x - y)
  | .mul => k.wrap (x * y)
  | .quo => k.wrap (x.tdiv y)
  | .rem => x.tmod y
  | .and | .or | .xor | .andNot => bits op k x y
  | .shl => k.wrap (x * 2 ^ min y.toNat k.bits)
  | .shr => x.fdiv (2 ^ min y.toNat k.bits)
  | _ => 0

def cmpDen (op : BinOp) (x y : Int) : Bool :=
  match op with
  | .eql => x == y
  | .neq => x != y
  | .lss => decide (x < y)
  | .leq => decide (x ≤ y)
  | .gtr => decide (x > y)
  | .geq => decide (x ≥ y)
  | _ => false

def Ex.den {U : Type} (env : List (EV U)) : Ex → Int
  | .lit n => n
  | .var i => gI env i
  | .bin op k a b => binDen op k (a.den env) (b.den env)
  | .conv k a => k.wrap (a.den env)
  | .len i => ((gL env i).length : Int)
  | .nth i e => (gL env i).getD (e.den env).toNat 0
  | .fld i e c => gF env i (e.den env).toNat c
  | .nrow i => (gN env i : Int)

/-- truths -/
inductive Bx where
  | lit (b : Bool)
  | var (i : Nat)
  | cmp (op : BinOp) (a b : Ex)
  | beq (a b : Bx)
  | not (a : Bx)
  | and (a b : Bx)
  | isnil (i : Nat)
  | fld (i : Nat) (e : Ex) (c : Nat)
  deriving Inhabited

def Bx.den {U : Type} [Nil U] (env : List (EV U)) : Bx → Bool
  | .lit b => b
  | .var i => gB env i
  | .cmp op a b => cmpDen op (a.den env) (b.den env)
  | .beq a b => a.den env == b.den env
  | .not a => !a.den env
  | .and a b => a.den env && b.den env
  | .isnil i => gNil env i
  | .fld i e c => gF env i (e.den env).toNat c != 0

def mkBin (op : BinOp) (k : IntKind) (a b : Ex) : Ex :=
  match a, b with
  | .lit x, .lit y => .lit (binDen op k x y)
  | _, _ => .bin op k a b
def mkConv (k : IntKind) (a : Ex) : Ex := match a with | .lit x => .lit (k.wrap x) | _ => .conv k a
def mkCmp (op : BinOp) (a b : Ex) : Bx :=
  match a, b with
  | .lit x, .lit y => .lit (cmpDen op x y)
  | _, _ => .cmp op a b
def mkNot (a : Bx) : Bx := match a with | .lit b => .lit (!b) | .not b => b | _ => .not a
def mkAnd (a b : Bx) : Bx :=
  match a, b with
  | .lit true, b => b
  | .lit false, _ => .lit false
  | a, .lit true => a
  | _, .lit false => .lit false
  | a, b => .and a b
def mkBeq (a b : Bx) : Bx :=
  match a, b with
  | .lit x, .lit y => .lit (x == y)
  | .lit true, b => b
  | a, .lit true => a
  | .lit false, b => mkNot b
  | a, .lit false => mkNot a
  | a, b => .beq a b

def Ex.beq : Ex → Ex → Bool
  | .lit a, .lit b => a == b
  | .var i, .var j => i == j
  | .bin op k a b, .bin op' k' a' b' => op == op' && k == k' && a.beq a' && b.beq b'
  | .conv k a, .conv k' a' => k == k' && a.beq a'
  | .len i, .len j => i == j
  | .nth i e, .nth j e' => i == j && e.beq e'
  | .fld i e c, .fld j e' c' => i == j && e.beq e' && c == c'
  | .nrow i, .nrow j => i == j
  | _, _ => false
def Bx.beq' : Bx → Bx → Bool
  | .lit a, .lit b => a == b
  | .var i, .var j => i == j
  | .cmp op a b, .cmp op' a' b' => op == op' && a.beq a' && b.beq b'
  | .beq a b, .beq a' b' => a.beq' a' && b.beq' b'
  | .not a, .not a' => a.beq' a'
  | .and a b, .and a' b' => a.beq' a' && b.beq' b'
  | .isnil i, .isnil j => i == j
  | .fld i e c, .fld j e' c' => i == j && e.beq e' && c == c'
  | _, _ => false

/-- values -/
inductive SV where
  | int (k : IntKind) (e : Ex)
  | bool (b : Bx)
  | nilp
  | ptr (n off : Nat)
  | ptrx (n : Nat) (e : Ex) (sz off : Nat)
  | hnd (n : Nat)
  | nils
  | slice (n : Nat) (len cap : Ex)
  | func (fn : Fn) (first captured : List SV)
  | nilf
  | agg (l : List SV)
  | tuple (l : List SV)
  | rowv (k : IntKind) (i : Nat)
  | yld (n : Nat)
  | junk
  deriving Inhabited

def hv (ρ : List Value) (n : Nat) : Value := ρ.getD n undef
def addrOf (v : Value) : Addr := match v with | .pointer (some a) => a | _ => ⟨0, 0, none⟩
def baseOf (v : Value) : Option Addr := match v with | .pointer p => p | _ => some ⟨0, 0, none⟩

mutual
def SV.den {U : Type} [Nil U] (env : List (EV U)) (ρ : List Value) : SV → Value
  | .int k e => .int k (e.den env)
  | .bool b => .bool (b.den env)
  | .nilp => .pointer none
  | .ptr n off => .pointer (some ((addrOf (hv ρ n)).add off))
  | .ptrx n e sz off => .pointer (some ((addrOf (hv ρ n)).add ((e.den env).toNat * sz + off)))
  | .hnd n => hv ρ n
  | .nils => .slice none 0 0
  | .slice n len cap => .slice (baseOf (hv ρ n)) (len.den env).toNat (cap.den env).toNat
  | .func fn a b => .func fn (SV.denL env ρ a).toArray (SV.denL env ρ b).toArray
  | .nilf => .nilFunc
  | .agg l => .agg (SV.denL env ρ l).toArray
  | .tuple l => .tuple (SV.denL env ρ l).toArray
  | .rowv k i => .agg ((gL env i).map (.int k)).toArray
  | .yld n => .func (.yield (addrOf (hv ρ n)).block) #[] #[]
  | .junk => undef
def SV.denL {U : Type} [Nil U] (env : List (EV U)) (ρ : List Value) : List SV → List Value
  | [] => []
  | v :: l => SV.den env ρ v :: SV.denL env ρ l
end

mutual
def SV.beq : SV → SV → Bool
  | .int k e, .int k' e' => k == k' && e.beq e'
  | .bool b, .bool b' => b.beq' b'
  | .nilp, .nilp => true
  | .ptr n o, .ptr n' o' => n == n' && o == o'
  | .ptrx n e s o, .ptrx n' e' s' o' => n == n' && e.beq e' && s == s' && o == o'
  | .hnd n, .hnd n' => n == n'
  | .nils, .nils => true
  | .slice n a b, .slice n' a' b' => n == n' && a.beq a' && b.beq b'
  | .func f a b, .func f' a' b' => decide (f = f') && SV.beqL a a' && SV.beqL b b'
  | .nilf, .nilf => true
  | .agg l, .agg l' => SV.beqL l l'
  | .tuple l, .tuple l' => SV.beqL l l'
  | .rowv k i, .rowv k' i' => k == k' && i == i'
  | .yld n, .yld n' => n == n'
  | .junk, .junk => true
  | _, _ => false
def SV.beqL : List SV → List SV → Bool
  | [], [] => true
  | a :: l, b :: m => SV.beq a b && SV.beqL l m
  | _, _ => false
end

mutual
def SV.sure : SV → Bool
  | .junk => false
  | .func _ a b => SV.sureL a && SV.sureL b
  | .agg l => SV.sureL l
  | .tuple l => SV.sureL l
  | .rowv .. => false
  | _ => true
def SV.sureL : List SV → Bool
  | [] => true
  | a :: l => a.sure && SV.sureL l
end
def SV.one : SV → Bool
  | .agg _ | .tuple _ | .junk | .hnd _ | .rowv .. | .yld _ => false
  | _ => true
/-- the cells of a value -/
def SV.flat : SV → List SV
  | .agg l => l
  | v => [v]

/-- what a block of the machine's own holds: calls that wait (none), the record of a loop over a function -/
inductive RecSt where
  | dfr
  | ready
  | busy
  | ret
  | exit (id : Nat)
  deriving DecidableEq, Inhabited
def objOf (L : Loop) : RecSt → Obj
  | .dfr => .deferred (some [])
  | .ready => .loop { L with state := .ready, pending := none }
  | .busy => .loop { L with state := .busy, pending := none }
  | .ret => .loop { L with state := .done, pending := some .ret }
  | .exit id => .loop { L with state := .done, pending := some (.exit id) }

/-- blocks -/
inductive HE where
  | cells (vs : List SV) (t : TypeId)
  | abs (i : Nat)
  | row (k : IntKind) (t : TypeId) (i : Nat)
  | ro (ks : List (Option IntKind)) (i : Nat)
  | sys (i : Nat) (j : RecSt)
  | gone
  deriving Inhabited
def HE.beq : HE → HE → Bool
  | .cells a t, .cells b u => SV.beqL a b && t == u
  | .abs i, .abs j => i == j
  | .row k t i, .row k' t' i' => k == k' && t == t' && i == i'
  | .ro a i, .ro b j => decide (a = b) && i == j
  | .sys i a, .sys j b => i == j && decide (a = b)
  | .gone, .gone => true
  | _, _ => false

inductive Bnd where
  | ex (e : Ex)
  | bx (b : Bx)
  | var (i : Nat)
  deriving Inhabited
def Bnd.den {U : Type} [Nil U] (env : List (EV U)) : Bnd → EV U
  | .ex e => .i (e.den env)
  | .bx b => .b (b.den env)
  | .var i => env.getD i (.i 0)

inductive ED where
  | setl (i : Nat) (e x : Ex)
  | repl (n x : Ex)
  | mk (t : Nat) (ps : List Bnd)
  | lst (xs : List Ex)
  deriving Inhabited

/-- the ways of a run -/
inductive Tree where
  | ret (β : List Bnd)
  | br (c : Bx) (t f : Tree)
  | need (c : Bx) (k : Tree)
  | call (c : Nat) (β : List Bnd) (k : Tree)
  | ext (d : ED) (k : Tree)
  | and (a b : Tree)
  | ok
  | opn (i t : Nat) (k : Tree)
  | nomore (i : Nat) (ts : List Nat)
  | loop (id : Nat) (ne : Nat) (β : List Bnd) (k : Tree)
  | back (id : Nat) (ne : Nat) (β : List Bnd)
  | viol (n : Nat)
  | rng (k : Tree)
  | grow (i : Nat) (e : Ex) (k : Tree)
  | fail (why : String)
  deriving Inhabited

/-- a form of an object: its blocks, by what numbers, which object that is -/
structure ObjT (U : Type) where
  nv : Nat
  hp : List HE
  isNil : Bool
  ok : List (EV U) → Prop
  obj : List (EV U) → U

/-- a contract -/
structure Ctr (U : Type) where
  fn : FuncId
  nin : Nat
  args : List SV
  heap : List HE
  pre : List (EV U) → Prop
  nout : Nat
  out : List (EV U) → List (EV U)
  ret : SV
  post : List HE

/-- what holds at a loop's head -/
structure LoopS (U : Type) where
  fn : FuncId
  rid : Nat
  nv : Nat
  tm : List (Nat × SV)
  hp : List (Nat × HE)
  reb : List (Nat × Nat)
  inv : List (EV U) → Prop
  mu : List (EV U) → Nat

/-- the slots of a frame, as a tree; its marks -/
inductive Tr where
  | leaf
  | node (v : SV) (l r : Tr)
  deriving Inhabited
def Tr.get : Tr → Nat → SV
  | .leaf, _ => .junk
  | .node v l r, i => match Nat.beq i 0 with | true => v | false => match Nat.beq (i % 2) 1 with | true => l.get (i / 2) | false => r.get (i / 2 - 1)
def Tr.set : Tr → Nat → SV → Tr
  | .leaf, _, _ => .leaf
  | .node v l r, i, x => match Nat.beq i 0 with | true => .node x l r | false => match Nat.beq (i % 2) 1 with | true => .node v (l.set (i / 2) x) r | false => .node v l (r.set (i / 2 - 1) x)
def Tr.map (g : SV → SV) : Tr → Tr
  | .leaf => .leaf
  | .node v l r => .node (g v) (l.map g) (r.map g)
/-- a tree of the values of a function -/
def Tr.mk' (f : Nat → SV) (len : Nat) : Nat → Nat → Nat → Tr
  | 0, _, _ => .leaf
  | d + 1, a, b => match Nat.blt b len with | true => .node (f b) (Tr.mk' f len d (2 * a) (a + b)) (Tr.mk' f len d (2 * a) (2 * a + b)) | false => .leaf
structure Tm where
  len : Nat
  t : Tr
  mks : List Nat
  deriving Inhabited
def Tm.getD (m : Tm) (i : Nat) (_ : SV) : SV := m.t.get i
def Tm.set (m : Tm) (i : Nat) (v : SV) : Tm := match Nat.blt i m.len with | true => { m with t := m.t.set i v } | false => m
def Tm.ofList (l : List SV) (n : Nat) : Tm := let len := l.length + (n - l.length); { len := len, t := Tr.mk' (fun i => l.getD i .junk) len 12 1 0, mks := [] }
def Tm.list (m : Tm) : List SV := (List.range m.len).map m.t.get
theorem Tr.get_set : ∀ (t : Tr) (i j : Nat) (v : SV), (i = j → (t.set i v).get j = v ∨ (t.set i v).get j = .junk) ∧ (i ≠ j → (t.set i v).get j = t.get j)
  | .leaf, i, j, v => ⟨fun _ => .inr rfl, fun _ => rfl⟩
  | .node x l r, i, j, v => by
    have hl := Tr.get_set l (i / 2) (j / 2) v
    have hr := Tr.get_set r (i / 2 - 1) (j / 2 - 1) v
    have b0 : ∀ n : Nat, Nat.beq n 0 = decide (n = 0) := fun n => by cases n <;> rfl
    have b1 : ∀ n : Nat, Nat.beq (n % 2) 1 = decide (n % 2 = 1) := fun n => by
      rcases Nat.mod_two_eq_zero_or_one n with h | h <;> rw [h] <;> rfl
    simp only [Tr.set, b0, b1]
    by_cases hi : i = 0
    · subst hi
      simp only [decide_true]
      refine ⟨fun h => by subst h; exact .inl rfl, fun h => ?_⟩
      simp only [Tr.get, b0, b1]
      rw [decide_eq_false (fun e : j = 0 => h e.symm)]
    · simp only [hi, decide_false]
      by_cases hi2 : i % 2 = 1
      · simp only [hi2, decide_true]
        refine ⟨fun h => ?_, fun h => ?_⟩
        · subst h
          simp only [Tr.get, b0, b1, hi, hi2, decide_true, decide_false]
          exact hl.1 rfl
        · simp only [Tr.get, b0, b1]
          by_cases hj : j = 0
          · simp [hj]
          · simp only [hj, decide_false]
            by_cases hj2 : j % 2 = 1
            · simp only [hj2, decide_true]
              exact hl.2 (by omega)
            · simp only [hj2, decide_false]
      · simp only [hi2, decide_false]
        refine ⟨fun h => ?_, fun h => ?_⟩
        · subst h
          simp only [Tr.get, b0, b1, hi, hi2, decide_false]
          exact hr.1 rfl
        · simp only [Tr.get, b0, b1]
          by_cases hj : j = 0
          · simp [hj]
          · simp only [hj, decide_false]
            by_cases hj2 : j % 2 = 1
            · simp only [hj2, decide_true]
            · simp only [hj2, decide_false]
              exact hr.2 (by omega)
theorem Tr.get_map (g : SV → SV) (hg : g .junk = .junk) : ∀ (t : Tr) (i : Nat), (t.map g).get i = g (t.get i)
  | .leaf, i => hg.symm
  | .node v l r, i => by
    simp only [Tr.map, Tr.get]
    cases Nat.beq i 0
    · dsimp only
      cases Nat.beq (i % 2) 1
      · exact Tr.get_map g hg r _
      · exact Tr.get_map g hg l _
    · rfl
theorem Tr.get_mk (f : Nat → SV) (len : Nat) : ∀ (d a b i : Nat), (Tr.mk' f len d a b).get i = f (a * i + b) ∨ (Tr.mk' f len d a b).get i = .junk
  | 0, a, b, i => .inr rfl
  | d + 1, a, b, i => by
    simp only [Tr.mk']
    cases Nat.blt b len
    · exact .inr rfl
    · simp only [Tr.get]
      by_cases hi : i = 0
      · subst hi; exact .inl (by simp)
      · have b0 : Nat.beq i 0 = false := by cases i <;> first | exact absurd rfl hi | rfl
        rw [b0]
        dsimp only
        rcases Nat.mod_two_eq_zero_or_one i with h | h
        · rw [h]
          have := Tr.get_mk f len d (2 * a) (2 * a + b) (i / 2 - 1)
          have e : 2 * a * (i / 2 - 1) + (2 * a + b) = a * i + b := by
            have : i = 2 * (i / 2 - 1) + 2 := by omega
            generalize i / 2 - 1 = q at *
            subst this
            rw [Nat.mul_add, ← Nat.mul_assoc, Nat.mul_comm a 2]; omega
          rw [e] at this
          exact this
        · rw [h]
          have := Tr.get_mk f len d (2 * a) (a + b) (i / 2)
          have e : 2 * a * (i / 2) + (a + b) = a * i + b := by
            have : i = 2 * (i / 2) + 1 := by omega
            generalize i / 2 = q at *
            subst this
            rw [Nat.mul_add, ← Nat.mul_assoc, Nat.mul_comm a 2]; omega
          rw [e] at this
          exact this
structure St where
  tm : Tm
  stk : List Tm
  hp : List HE
  ne : Nat
  pc : List (Bx × Bool) := []
  deriving Inhabited

inductive SExit where
  | normal
  | exit (id : Nat)
  | ret
  deriving Inhabited
end Go.Proofs.Ytjohihkbampbgaa
