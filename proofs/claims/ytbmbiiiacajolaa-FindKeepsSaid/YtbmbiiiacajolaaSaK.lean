/- Texts of this proof. -/
import Derived.OrdersHeld
import Derived.Laws.CopyRow
import Derived.Laws.Strings
import Derived.Laws.Rows
import Derived.Below
import Derived.Scope
import Derived.KernelRfl
import Derived.Conc.MuLone
namespace Go.Proofs.Ytbmbiiiacajolaa
set_option linter.unusedVariables false
set_option linter.unusedSimpArgs false
set_option linter.unusedSectionVars false
open Go
class Nil (U : Type) where
 isNil : U → Bool
inductive EV (U : Type) where
 | i (n : Int)
 | b (x : Bool)
 | l (xs : List Int)
 | f (g : Nat → Nat → Int) (n : Nat)
 | u (s : U)
 | r (L : Loop)
section
variable {U : Type}
def gI (env : List (EV U)) (i : Nat) : Int := match env[i]? with | some (.i n) => n | _ => 0
def gB (env : List (EV U)) (i : Nat) : Bool := match env[i]? with | some (.b x) => x | _ => false
def gL (env : List (EV U)) (i : Nat) : List Int := match env[i]? with | some (.l xs) => xs | _ => []
def gF (env : List (EV U)) (i : Nat) : Nat → Nat → Int := match env[i]? with | some (.f g _) => g | _ => fun _ _ => 0
def gN (env : List (EV U)) (i : Nat) : Nat := match env[i]? with | some (.f _ n) => n | _ => 0
def gNil [Nil U] (env : List (EV U)) (i : Nat) : Bool := match env[i]? with | some (.u s) => Nil.isNil s | _ => false
end
inductive Ex where
 | lit (n : Int)
 | var (i : Nat)
 | bin (op : BinOp) (k : IntKind) (a b : Ex)
 | conv (k : IntKind) (a : Ex)
 | len (i : Nat)
 | nth (i : Nat) (e : Ex)
 | fld (i : Nat) (e : Ex) (c : Nat)
 | nrow (i : Nat)
 deriving Inhabited
def binDen (op : BinOp) (k : IntKind) (x y : Int) : Int :=
 match op with
 | .add => k.wrap (x + y)
 | .sub => k.wrap (x - y)
 | .mul => k.wrap (x * y)
 | .quo => k.wrap (x.tdiv y)
 | .rem => x.tmod y
 | .and | .or | .xor | .andNot => bits op k x y
 | .shl => k.wrap (x * 2 ^ min y.toNat k.bits)
 | .shr => x.fdiv (2 ^ min y.toNat k.bits)
 | _ => 0
def cmpDen (op : BinOp) (x y : Int) : Bool :=
 match op with
 | .eql => x == y
 | .neq => x != y
 | .lss => decide (x < y)
 | .leq => decide (x ≤ y)
 | .gtr => decide (x > y)
 | .geq => decide (x ≥ y)
 | _ => false
def Ex.den {U : Type} (env : List (EV U)) : Ex → Int
 | .lit n => n
 | .var i => gI env i
 | .bin op k a b => binDen op k (a.den env) (b.den env)
 | .conv k a => k.wrap (a.den env)
 | .len i => ((gL env i).length : Int)
 | .nth i e => (gL env i).getD (e.den env).toNat 0
 | .fld i e c => gF env i (e.den env).toNat c
 | .nrow i => (gN env i : Int)
inductive Bx where
 | lit (b : Bool)
 | var (i : Nat)
 | cmp (op : BinOp) (a b : Ex)
 | beq (a b : Bx)
 | not (a : Bx)
 | and (a b : Bx)
 | isnil (i : Nat)
 | fld (i : Nat) (e : Ex) (c : Nat)
 | mem (i : Nat) (e : Ex)
 deriving Inhabited
def Bx.den {U : Type} [Nil U] (env : List (EV U)) : Bx → Bool
 | .lit b => b
 | .var i => gB env i
 | .cmp op a b => cmpDen op (a.den env) (b.den env)
 | .beq a b => a.den env == b.den env
 | .not a => !a.den env
 | .and a b => a.den env && b.den env
 | .isnil i => gNil env i
 | .fld i e c => gF env i (e.den env).toNat c != 0
 | .mem i e => decide (e.den env ∈ gL env i)
def mkBin (op : BinOp) (k : IntKind) (a b : Ex) : Ex :=
 match a, b with
 | .lit x, .lit y => .lit (binDen op k x y)
 | _, _ => .bin op k a b
def mkConv (k : IntKind) (a : Ex) : Ex := match a with | .lit x => .lit (k.wrap x) | _ => .conv k a
def mkCmp (op : BinOp) (a b : Ex) : Bx :=
 match a, b with
 | .lit x, .lit y => .lit (cmpDen op x y)
 | _, _ => .cmp op a b
def mkNot (a : Bx) : Bx := match a with | .lit b => .lit (!b) | .not b => b | _ => .not a
def mkAnd (a b : Bx) : Bx :=
 match a, b with
 | .lit true, b => b
 | .lit false, _ => .lit false
 | a, .lit true => a
 | _, .lit false => .lit false
 | a, b => .and a b
def mkBeq (a b : Bx) : Bx :=
 match a, b with
 | .lit x, .lit y => .lit (x == y)
 | .lit true, b => b
 | a, .lit true => a
 | .lit false, b => mkNot b
 | a, .lit false => mkNot a
 | a, b => .beq a b
def Ex.beq : Ex → Ex → Bool
 | .lit a, .lit b => a == b
 | .var i, .var j => i == j
 | .bin op k a b, .bin op' k' a' b' => op == op' && k == k' && a.beq a' && b.beq b'
 | .conv k a, .conv k' a' => k == k' && a.beq a'
 | .len i, .len j => i == j
 | .nth i e, .nth j e' => i == j && e.beq e'
 | .fld i e c, .fld j e' c' => i == j && e.beq e' && c == c'
 | .nrow i, .nrow j => i == j
 | _, _ => false
def Bx.beq' : Bx → Bx → Bool
 | .lit a, .lit b => a == b
 | .var i, .var j => i == j
 | .cmp op a b, .cmp op' a' b' => op == op' && a.beq a' && b.beq b'
 | .beq a b, .beq a' b' => a.beq' a' && b.beq' b'
 | .not a, .not a' => a.beq' a'
 | .and a b, .and a' b' => a.beq' a' && b.beq' b'
 | .isnil i, .isnil j => i == j
 | .fld i e c, .fld j e' c' => i == j && e.beq e' && c == c'
 | .mem i e, .mem j e' => i == j && e.beq e'
 | _, _ => false
inductive SV where
 | int (k : IntKind) (e : Ex)
 | bool (b : Bx)
 | nilp
 | ptr (n off : Nat)
 | ptrx (n : Nat) (e : Ex) (sz off : Nat)
 | hnd (n : Nat)
 | nils
 | slice (n : Nat) (len cap : Ex)
 | slicx (n off : Nat) (len cap : Ex)
 | func (fn : Fn) (first captured : List SV)
 | nilf
 | agg (l : List SV)
 | tuple (l : List SV)
 | iface (t : TypeId) (l : List SV)
 | rowv (k : IntKind) (i : Nat)
 | yld (n : Nat)
 | mapv (n : Nat)
 | str (s : ByteArray)
 | junk
 deriving Inhabited
def hv (ρ : List Value) (n : Nat) : Value := ρ.getD n undef
def addrOf (v : Value) : Addr := match v with | .pointer (some a) => a | _ => ⟨0, 0, none⟩
def baseOf (v : Value) : Option Addr := match v with | .pointer p => p | _ => some ⟨0, 0, none⟩
mutual
def SV.den {U : Type} [Nil U] (env : List (EV U)) (ρ : List Value) : SV → Value
 | .int k e => .int k (e.den env)
 | .bool b => .bool (b.den env)
 | .nilp => .pointer none
 | .ptr n off => .pointer (some ((addrOf (hv ρ n)).add off))
 | .ptrx n e sz off => .pointer (some ((addrOf (hv ρ n)).add ((e.den env).toNat * sz + off)))
 | .hnd n => hv ρ n
 | .nils => .slice none 0 0
 | .slice n len cap => .slice (baseOf (hv ρ n)) (len.den env).toNat (cap.den env).toNat
 | .slicx n off len cap => .slice (if (cap.den env).toNat = off then baseOf (hv ρ n) else (baseOf (hv ρ n)).map (·.add off)) ((len.den env).toNat - off) ((cap.den env).toNat - off)
 | .func fn a b => .func fn (SV.denL env ρ a).toArray (SV.denL env ρ b).toArray
 | .nilf => .nilFunc
 | .agg l => .agg (SV.denL env ρ l).toArray
 | .tuple l => .tuple (SV.denL env ρ l).toArray
 | .iface t l => .iface t ((SV.denL env ρ l).headD undef)
 | .rowv k i => .agg ((gL env i).map (.int k)).toArray
 | .yld n => .func (.yield (addrOf (hv ρ n)).block) #[] #[]
 | .mapv n => .map (some (addrOf (hv ρ n)).block)
 | .str s => .string s
 | .junk => undef
def SV.denL {U : Type} [Nil U] (env : List (EV U)) (ρ : List Value) : List SV → List Value
 | [] => []
 | v :: l => SV.den env ρ v :: SV.denL env ρ l
end
mutual
def SV.beq : SV → SV → Bool
 | .int k e, .int k' e' => k == k' && e.beq e'
 | .bool b, .bool b' => b.beq' b'
 | .nilp, .nilp => true
 | .ptr n o, .ptr n' o' => n == n' && o == o'
 | .ptrx n e s o, .ptrx n' e' s' o' => n == n' && e.beq e' && s == s' && o == o'
 | .hnd n, .hnd n' => n == n'
 | .nils, .nils => true
 | .slice n a b, .slice n' a' b' => n == n' && a.beq a' && b.beq b'
 | .slicx n o a b, .slicx n' o' a' b' => n == n' && o == o' && a.beq a' && b.beq b'
 | .func f a b, .func f' a' b' => decide (f = f') && SV.beqL a a' && SV.beqL b b'
 | .nilf, .nilf => true
 | .agg l, .agg l' => SV.beqL l l'
 | .tuple l, .tuple l' => SV.beqL l l'
 | .iface t l, .iface t' l' => t == t' && SV.beqL l l'
 | .rowv k i, .rowv k' i' => k == k' && i == i'
 | .yld n, .yld n' => n == n'
 | .mapv n, .mapv n' => n == n'
 | .str a, .str b => decide (a = b)
 | .junk, .junk => true
 | _, _ => false
def SV.beqL : List SV → List SV → Bool
 | [], [] => true
 | a :: l, b :: m => SV.beq a b && SV.beqL l m
 | _, _ => false
end
mutual
def SV.sure : SV → Bool
 | .junk => false
 | .func _ a b => SV.sureL a && SV.sureL b
 | .agg l => SV.sureL l
 | .tuple l => SV.sureL l
 | .iface _ l => SV.sureL l
 | .rowv .. => false
 | _ => true
def SV.sureL : List SV → Bool
 | [] => true
 | a :: l => a.sure && SV.sureL l
end
def SV.one : SV → Bool
 | .agg _ | .tuple _ | .iface .. | .junk | .hnd _ | .rowv .. | .yld _ | .mapv _ => false
 | _ => true
def SV.flat : SV → List SV
 | .agg l => l
 | v => [v]
inductive RecSt where
 | dfr
 | ready
 | busy
 | ret
 | exit (id : Nat)
 deriving DecidableEq, Inhabited
def objOf (L : Loop) : RecSt → Obj
 | .dfr => .deferred (some [])
 | .ready => .loop { L with state := .ready, pending := none }
 | .busy => .loop { L with state := .busy, pending := none }
 | .ret => .loop { L with state := .done, pending := some .ret }
 | .exit id => .loop { L with state := .done, pending := some (.exit id) }
inductive HE where
 | cells (vs : List SV) (t : TypeId)
 | abs (i : Nat)
 | row (k : IntKind) (t : TypeId) (i : Nat)
 | ro (ks : List (Option IntKind)) (i : Nat)
 | sys (i : Nat) (j : RecSt)
 | gone
 | sp (k : IntKind) (t : TypeId) (len : Nat) (xs : List (Nat × Int))
 | mp (i : Nat)
 | kn (k : IntKind) (t : TypeId) (xs : List Int) (i : Nat)
 | kc (vs : List SV) (t : TypeId) (sz : Nat) (i : Nat)
 | rb (t : TypeId) (i : Nat)
 deriving Inhabited
def spAt : List (Nat × Int) → Nat → Int
 | [], _ => 0
 | (j, x) :: l, i => match Nat.beq j i with | true => x | false => spAt l i
def spSet : List (Nat × Int) → Nat → Int → List (Nat × Int)
 | [], i, x => [(i, x)]
 | (j, y) :: l, i, x => match Nat.beq j i with | true => (j, x) :: l | false => match Nat.blt i j with | true => (i, x) :: (j, y) :: l | false => (j, y) :: spSet l i x
def spL (len : Nat) (xs : List (Nat × Int)) : List Int := (List.range len).map (spAt xs)
def HE.beq : HE → HE → Bool
 | .cells a t, .cells b u => SV.beqL a b && t == u
 | .abs i, .abs j => i == j
 | .row k t i, .row k' t' i' => k == k' && t == t' && i == i'
 | .ro a i, .ro b j => decide (a = b) && i == j
 | .sys i a, .sys j b => i == j && decide (a = b)
 | .gone, .gone => true
 | .sp k t l xs, .sp k' t' l' xs' => k == k' && t == t' && l == l' && decide (xs = xs')
 | .mp i, .mp j => i == j
 | .kn k t xs i, .kn k' t' xs' i' => k == k' && t == t' && decide (xs = xs') && i == i'
 | .kc vs t sz i, .kc vs' t' sz' i' => SV.beqL vs vs' && t == t' && sz == sz' && i == i'
 | .rb t i, .rb t' i' => t == t' && i == i'
 | _, _ => false
inductive Bnd where
 | ex (e : Ex)
 | bx (b : Bx)
 | var (i : Nat)
 deriving Inhabited
def Bnd.den {U : Type} [Nil U] (env : List (EV U)) : Bnd → EV U
 | .ex e => .i (e.den env)
 | .bx b => .b (b.den env)
 | .var i => env.getD i (.i 0)
inductive ED where
 | setl (i : Nat) (e x : Ex)
 | repl (n x : Ex)
 | mk (t : Nat) (ps : List Bnd)
 | lst (xs : List Ex)
 | push (i : Nat) (e : Ex)
 deriving Inhabited
structure ObjT (U : Type) where
 nv : Nat
 hp : List HE
 isNil : Bool
 ok : List (EV U) → Prop
 obj : List (EV U) → U
structure Ctr (U : Type) where
 fn : FuncId
 nin : Nat
 args : List SV
 heap : List HE
 pre : List (EV U) → Prop
 nout : Nat
 out : List (EV U) → List (EV U)
 ret : SV
 post : List HE
 many : Option (List Int → List (EV U) → List (EV U)) := none
 nils : List (Nat × Nat) := []
 rel : Option (List (EV U) → List (EV U) → Prop) := none
def Ctr.may {U : Type} (c : Ctr U) (ins outs : List (EV U)) : Prop := match c.many with | none => (match c.rel with | none => outs = c.out ins | some r => r ins outs) | some g => ∃ n, outs = g n ins
structure LoopS (U : Type) where
 fn : FuncId
 rid : Nat
 nv : Nat
 tm : List (Nat × SV)
 hp : List (Nat × HE)
 reb : List (Nat × Nat)
 inv : List (EV U) → Prop
 mu : List (EV U) → Nat
 at_ : Nat := 0
inductive Tr where
 | leaf
 | node (v : SV) (l r : Tr)
 deriving Inhabited
def Tr.get : Tr → Nat → SV
 | .leaf, _ => .junk
 | .node v l r, i => match Nat.beq i 0 with | true => v | false => match Nat.beq (i % 2) 1 with | true => l.get (i / 2) | false => r.get (i / 2 - 1)
def Tr.set : Tr → Nat → SV → Tr
 | .leaf, _, _ => .leaf
 | .node v l r, i, x => match Nat.beq i 0 with | true => .node x l r | false => match Nat.beq (i % 2) 1 with | true => .node v (l.set (i / 2) x) r | false => .node v l (r.set (i / 2 - 1) x)
def Tr.map (g : SV → SV) : Tr → Tr
 | .leaf => .leaf
 | .node v l r => .node (g v) (l.map g) (r.map g)
def Tr.mk' (f : Nat → SV) (len : Nat) : Nat → Nat → Nat → Tr
 | 0, _, _ => .leaf
 | d + 1, a, b => match Nat.blt b len with | true => .node (f b) (Tr.mk' f len d (2 * a) (a + b)) (Tr.mk' f len d (2 * a) (2 * a + b)) | false => .leaf
structure Tm where
 len : Nat
 t : Tr
 mks : List Nat
 dfs : List (FuncId × List SV) := []
 deriving Inhabited
def Tm.getD (m : Tm) (i : Nat) (_ : SV) : SV := m.t.get i
def Tm.set (m : Tm) (i : Nat) (v : SV) : Tm := match Nat.blt i m.len with | true => { m with t := m.t.set i v } | false => m
def Tm.ofList (l : List SV) (n : Nat) : Tm := let len := l.length + (n - l.length); { len := len, t := Tr.mk' (fun i => l.getD i .junk) len 12 1 0, mks := [] }
def Tm.list (m : Tm) : List SV := (List.range m.len).map m.t.get
theorem Tr.get_set : ∀ (t : Tr) (i j : Nat) (v : SV), (i = j → (t.set i v).get j = v ∨ (t.set i v).get j = .junk) ∧ (i ≠ j → (t.set i v).get j = t.get j)
 | .leaf, i, j, v => ⟨fun _ => .inr rfl, fun _ => rfl⟩
 | .node x l r, i, j, v => by
   have hl := Tr.get_set l (i / 2) (j / 2) v
   have hr := Tr.get_set r (i / 2 - 1) (j / 2 - 1) v
   have b0 : ∀ n : Nat, Nat.beq n 0 = decide (n = 0) := fun n => by cases n <;> rfl
   have b1 : ∀ n : Nat, Nat.beq (n % 2) 1 = decide (n % 2 = 1) := fun n => by
    rcases Nat.mod_two_eq_zero_or_one n with h | h <;> rw [h] <;> rfl
   simp only [Tr.set, b0, b1]
   by_cases hi : i = 0
   · subst hi
     simp only [decide_true]
     refine ⟨fun h => by subst h; exact .inl rfl, fun h => ?_⟩
     simp only [Tr.get, b0, b1]
     rw [decide_eq_false (fun e : j = 0 => h e.symm)]
   · simp only [hi, decide_false]
     by_cases hi2 : i % 2 = 1
     · simp only [hi2, decide_true]
       refine ⟨fun h => ?_, fun h => ?_⟩
       · subst h
         simp only [Tr.get, b0, b1, hi, hi2, decide_true, decide_false]
         exact hl.1 rfl
       · simp only [Tr.get, b0, b1]
         by_cases hj : j = 0
         · simp [hj]
         · simp only [hj, decide_false]
           by_cases hj2 : j % 2 = 1
           · simp only [hj2, decide_true]
             exact hl.2 (by omega)
           · simp only [hj2, decide_false]
     · simp only [hi2, decide_false]
       refine ⟨fun h => ?_, fun h => ?_⟩
       · subst h
         simp only [Tr.get, b0, b1, hi, hi2, decide_false]
         exact hr.1 rfl
       · simp only [Tr.get, b0, b1]
         by_cases hj : j = 0
         · simp [hj]
         · simp only [hj, decide_false]
           by_cases hj2 : j % 2 = 1
           · simp only [hj2, decide_true]
           · simp only [hj2, decide_false]
             exact hr.2 (by omega)
theorem Tr.get_map (g : SV → SV) (hg : g .junk = .junk) : ∀ (t : Tr) (i : Nat), (t.map g).get i = g (t.get i)
 | .leaf, i => hg.symm
 | .node v l r, i => by
   simp only [Tr.map, Tr.get]
   cases Nat.beq i 0
   · dsimp only
     cases Nat.beq (i % 2) 1
     · exact Tr.get_map g hg r _
     · exact Tr.get_map g hg l _
   · rfl
theorem Tr.get_mk (f : Nat → SV) (len : Nat) : ∀ (d a b i : Nat), (Tr.mk' f len d a b).get i = f (a * i + b) ∨ (Tr.mk' f len d a b).get i = .junk
 | 0, a, b, i => .inr rfl
 | d + 1, a, b, i => by
   simp only [Tr.mk']
   cases Nat.blt b len
   · exact .inr rfl
   · simp only [Tr.get]
     by_cases hi : i = 0
     · subst hi; exact .inl (by simp)
     · have b0 : Nat.beq i 0 = false := by cases i <;> first | exact absurd rfl hi | rfl
       rw [b0]
       dsimp only
       rcases Nat.mod_two_eq_zero_or_one i with h | h
       · rw [h]
         have := Tr.get_mk f len d (2 * a) (2 * a + b) (i / 2 - 1)
         have e : 2 * a * (i / 2 - 1) + (2 * a + b) = a * i + b := by
          have : i = 2 * (i / 2 - 1) + 2 := by omega
          generalize i / 2 - 1 = q at *
          subst this
          rw [Nat.mul_add, ← Nat.mul_assoc, Nat.mul_comm a 2]; omega
         rw [e] at this
         exact this
       · rw [h]
         have := Tr.get_mk f len d (2 * a) (a + b) (i / 2)
         have e : 2 * a * (i / 2) + (a + b) = a * i + b := by
          have : i = 2 * (i / 2) + 1 := by omega
          generalize i / 2 = q at *
          subst this
          rw [Nat.mul_add, ← Nat.mul_assoc, Nat.mul_comm a 2]; omega
         rw [e] at this
         exact this
structure St where
 tm : Tm
 stk : List Tm
 hp : List HE
 ne : Nat
 pc : List (Bx × Bool) := []
 deriving Inhabited
inductive Tree where
 | ret (β : List Bnd)
 | br (c : Bx) (t f : Tree)
 | need (c : Bx) (k : Tree)
 | call (c : Nat) (β : List Bnd) (k : Tree)
 | callm (c : Nat) (β : List Bnd) (k : Tree)
 | ext (d : ED) (k : Tree)
 | and (a b : Tree)
 | ok
 | opn (i t : Nat) (k : Tree)
 | nomore (i : Nat) (ts : List Nat)
 | loop (id : Nat) (ne : Nat) (β : List Bnd) (k : Tree)
 | back (id : Nat) (ne : Nat) (β : List Bnd)
 | viol (n : Nat)
 | rng (k : Tree)
 | grow (i : Nat) (e : Ex) (k : Tree)
 | app (i : Option Nat) (e x : Ex) (k : Tree)
 | apps (i : Option Nat) (e : Ex) (xs : List Ex) (k : Tree)
 | appr (i : Option Nat) (e : Ex) (j : Nat) (e2 : Ex) (k : Tree)
 | fail (why : String)
 | leaf (s : St)
 | fast (k : Tree)
 deriving Inhabited
inductive SExit where
 | normal
 | exit (id : Nat)
 | ret
 deriving Inhabited
def St.put (st : St) (d : Option Tmp) (v : SV) : St :=
 match d with
 | some d => { st with tm := st.tm.set d v }
 | none => st
def ofAtom : Value → SV
 | .int k n => .int k (.lit n)
 | .bool b => .bool (.lit b)
 | .pointer none => .nilp
 | .slice none 0 0 => .nils
 | .nilFunc => .nilf
 | .string s => .str s
 | _ => .junk
def evalO (tm : Tm) : Operand → SV
 | .tmp t => tm.getD t .junk
 | .const v => ofAtom v
 | .func f => .func (.func f) [] []
 | .global _ => .junk
def isAggT (P : Program) (t : TypeId) : Bool :=
 match P.underlying t with
 | some (.struct _) | some (.array _ _) => true
 | _ => false
def plainT (P : Program) (t : TypeId) : Bool :=
 match P.underlying t with
 | some (.struct _) | some (.array _ _) | none => false
 | _ => true
def sizeT (P : Program) (t : TypeId) : Option Nat := (P.info? t).map (·.size)
def zeroT (P : Program) (t : TypeId) : Option (List SV) :=
 match (P.info? t).bind (·.zero) with
 | some z => let l := z.cells.toList.map ofAtom; if SV.sureL l then some l else none
 | none => none
def splice (cells : List SV) (off : Nat) (vs : List SV) : Option (List SV) :=
 if off + vs.length ≤ cells.length then some (cells.take off ++ vs ++ cells.drop (off + vs.length)) else none
def leE (a b : Ex) : List Bx := match mkCmp .leq a b with | .lit true => [] | c => [c]
def ltE (a b : Ex) : List Bx := match mkCmp .lss a b with | .lit true => [] | c => [c]
def roFields (ks : List (Option IntKind)) (i : Nat) (e : Ex) : Nat → Nat → Option (List SV)
 | _, 0 => some []
 | c, n + 1 =>
   match ks[c]? with
   | some (some k) => (roFields ks i e (c + 1) n).map (.int k (.fld i e c) :: ·)
   | some none => (roFields ks i e (c + 1) n).map (.bool (.fld i e c) :: ·)
   | none => none
def loadX (P : Program) (hp : List HE) (t : TypeId) (n : Nat) (e : Ex) (sz off : Nat) : Option (List Bx × SV) :=
 match hp[n]? with
 | some (.row k _ i) => if plainT P t && sz == 1 && off == 0 then some (leE (.lit 0) e ++ ltE e (.len i), .int k (.nth i e)) else none
 | some (.rb _ i) => if plainT P t && sz == 1 && off == 0 then some (leE (.lit 0) e ++ ltE e (.len i), .bool (.cmp .neq (.nth i e) (.lit 0))) else none
 | some (.ro ks i) =>
   if sz != ks.length then none
   else if isAggT P t then
    match sizeT P t with
    | some m => if off + m ≤ sz then (roFields ks i e off m).map fun l => (leE (.lit 0) e ++ ltE e (.nrow i), .agg l) else none
    | none => none
   else if plainT P t && decide (off < sz) then
    match roFields ks i e off 1 with
    | some [v] => some (leE (.lit 0) e ++ ltE e (.nrow i), v)
    | _ => none
   else none
 | _ => none
def loadS (P : Program) (hp : List HE) (t : TypeId) (a : SV) : Option (List Bx × SV) :=
 match a with
 | .ptr n off =>
   match hp[n]? with
   | some (.cells vs _) =>
     if isAggT P t then
      match sizeT P t with
      | some k => if off + k ≤ vs.length then some ([], .agg ((vs.drop off).take k)) else none
      | none => none
     else if plainT P t then (vs[off]?).map fun v => ([], v) else none
   | some (.row k _ i) =>
     if isAggT P t then
      match off, sizeT P t with
      | 0, some (m + 1) => some ((match mkCmp .eql (.len i) (.lit (m + 1 : Nat)) with | .lit true => [] | c => [c]), .rowv k i)
      | _, _ => none
     else loadX P hp t n (.lit off) 1 0
   | some (.ro ks _) => if ks.length = 0 then none else loadX P hp t n (.lit (off / ks.length : Nat)) ks.length (off % ks.length)
   | some (.sp k _ len xs) => if plainT P t && decide (off < len) then some ([], .int k (.lit (spAt xs off))) else none
   | some (.kn k _ xs _) => if plainT P t then (xs[off]?).map fun x => ([], .int k (.lit x)) else none
   | some (.kc vs _ _ _) =>
     if isAggT P t then
      match sizeT P t with
      | some k => if off + k ≤ vs.length then some ([], .agg ((vs.drop off).take k)) else none
      | none => none
     else if plainT P t then (vs[off]?).map fun v => ([], v) else none
   | _ => none
 | .ptrx n e sz off => loadX P hp t n e sz off
 | _ => none
def isMethod : Fn → Bool
 | .method _ => true
 | _ => false
def eqlAtom (hp : List HE) (x y : SV) : Option Bx :=
 match x, y with
 | .int k a, .int k' b => if k = k' then some (mkCmp .eql a b) else none
 | .bool a, .bool b => some (mkBeq a b)
 | .nilp, .nilp => some (.lit true)
 | .nilp, .ptr .. | .ptr .., .nilp | .nilp, .ptrx .. | .ptrx .., .nilp => some (.lit false)
 | .hnd n, .nilp | .nilp, .hnd n => match hp[n]? with | some (.abs i) => some (.isnil i) | _ => none
 | .nils, .nils => some (.lit true)
 | .nils, .slice n _ _ | .slice n _ _, .nils => match hp[n]? with | some (.cells ..) => some (.lit false) | _ => none
 | .nilf, .nilf => some (.lit true)
 | .nilf, .func .. | .func .., .nilf => some (.lit false)
 | .str a, .str b => some (.lit (a == b))
 | _, _ => none
def kindOk (P : Program) (t : TypeId) (x : SV) : Bool :=
 match P.underlying t, x with
 | some (.int _), .int .. => true
 | some .bool, .bool _ => true
 | some (.pointer _), .nilp | some (.pointer _), .ptr .. | some (.pointer _), .ptrx .. | some (.pointer _), .hnd _ => true
 | some (.slice _), .nils | some (.slice _), .slice .. => true
 | some (.func _ _ _), .nilf | some (.func _ _ _), .func .. => true
 | some .string, .str _ => true
 | _, _ => false
def eqlFields (P : Program) (hp : List HE) (xs ys : List SV) : List Field → Option Bx
 | [] => some (.lit true)
 | f :: fs =>
   if f.name == "_" || !plainT P f.type then none else
   match xs[f.offset]?, ys[f.offset]? with
   | some x, some y =>
     if kindOk P f.type x && kindOk P f.type y then
      match eqlAtom hp x y, eqlFields P hp xs ys fs with
      | some a, some b => some (mkAnd a b)
      | _, _ => none
     else none
   | _, _ => none
def eqlS (P : Program) (hp : List HE) (t : TypeId) (x y : SV) : Option Bx :=
 match x, y with
 | .agg xs, .agg ys =>
   match P.underlying t with
   | some (.struct fs) => if P.eqGuardType P.depth t || P.stoodInHeld t then none else eqlFields P hp xs ys fs.toList
   | _ => none
 | .int .., .int .. => eqlAtom hp x y
 | _, _ => if kindOk P t x && kindOk P t y then eqlAtom hp x y else none
def binS (P : Program) (hp : List HE) (op : BinOp) (t : TypeId) (x y : SV) : Option (List Bx × SV) :=
 match op with
 | .eql => (eqlS P hp t x y).map fun b => ([], .bool b)
 | .neq => (eqlS P hp t x y).map fun b => ([], .bool (mkNot b))
 | .shl | .shr =>
   match x, y with
   | .int k a, .int _ b => some (leE (.lit 0) b, .int k (mkBin op k a b))
   | _, _ => none
 | .lss | .leq | .gtr | .geq =>
   match x, y with
   | .int k a, .int k' b => if k = k' then some ([], .bool (mkCmp op a b)) else none
   | _, _ => none
 | .quo | .rem =>
   match x, y with
   | .int k a, .int k' b => if k = k' then some ((match mkCmp .neq b (.lit 0) with | .lit true => [] | c => [c]), .int k (mkBin op k a b)) else none
   | _, _ => none
 | _ =>
   match x, y with
   | .int k a, .int k' b => if k = k' then some ([], .int k (mkBin op k a b)) else none
   | _, _ => none
def unS (op : UnOp) (x : SV) : Option SV :=
 match op, x with
 | .not, .bool b => some (.bool (mkNot b))
 | .neg, .int k n => some (.int k (mkBin .sub k (.lit 0) n))
 | .xor, .int k n => some (.int k (mkBin .xor k (.lit (if k.signed then -1 else k.max)) n))
 | _, _ => none
def indexAddrS (P : Program) (hp : List HE) (t : TypeId) (x i : SV) : Option (List Bx × SV) :=
 match i with
 | .int _ e =>
   match P.underlying t, x with
   | some (.array len elem), .ptr n off =>
     match hp[n]? with
     | some (.cells ..) =>
       match sizeT P elem, e with
       | some sz, .lit j => if 0 ≤ j ∧ j < len then some ([], .ptr n (off + j.toNat * sz)) else none
       | _, _ => none
     | some (.row ..) => if off = 0 ∧ sizeT P elem = some 1 then some (leE (.lit 0) e ++ ltE e (.lit len), .ptrx n e 1 0) else none
     | some (.sp ..) =>
       match sizeT P elem, e with
       | some sz, .lit j => if 0 ≤ j ∧ j < len then some ([], .ptr n (off + j.toNat * sz)) else none
       | _, _ => none
     | _ => none
   | some (.slice _), .nils => some ([.lit false], .junk)
   | some (.slice elem), .slicx n off len cap =>
     match hp[n]? with
     | some (.row _ _ j) =>
       if sizeT P elem = some 1 ∧ off ≤ 1000000 then
        some (leE (.lit 0) e ++ leE e (.lit 1000000) ++ ltE (mkBin .add .i64 e (.lit (off : Nat))) len ++ leE len cap ++ ltE (mkBin .add .i64 e (.lit (off : Nat))) (.len j), .ptrx n (mkBin .add .i64 e (.lit (off : Nat))) 1 0)
       else none
     | _ => none
   | some (.slice elem), .slice n len _ =>
     match hp[n]? with
     | some (.cells ..) =>
       match sizeT P elem, e with
       | some sz, .lit j => if 0 ≤ j then some (ltE (.lit j) len, .ptr n (j.toNat * sz)) else none
       | _, _ => none
     | some (.row _ _ j) => if sizeT P elem = some 1 then some (leE (.lit 0) e ++ ltE e len ++ ltE e (.len j), .ptrx n e 1 0) else none
     | some (.rb _ j) => if sizeT P elem = some 1 then some (leE (.lit 0) e ++ ltE e len ++ ltE e (.len j), .ptrx n e 1 0) else none
     | some (.ro ks j) => if sizeT P elem = some ks.length then some (leE (.lit 0) e ++ ltE e len ++ ltE e (.nrow j), .ptrx n e ks.length 0) else none
     | some (.sp ..) =>
       match sizeT P elem, e with
       | some sz, .lit j => if 0 ≤ j then some (ltE (.lit j) len, .ptr n (j.toNat * sz)) else none
       | _, _ => none
     | some (.kn ..) =>
       match sizeT P elem, e with
       | some sz, .lit j => if 0 ≤ j then some (ltE (.lit j) len, .ptr n (j.toNat * sz)) else none
       | _, _ => none
     | some (.kc ..) =>
       match sizeT P elem, e with
       | some sz, .lit j => if 0 ≤ j then some (ltE (.lit j) len, .ptr n (j.toNat * sz)) else none
       | _, _ => none
     | _ => none
   | _, _ => none
 | _ => none
def partS (P : Program) (t : TypeId) (l : List SV) (off : Nat) : Option SV :=
 if isAggT P t then
  match sizeT P t with
  | some k => if off + k ≤ l.length then some (.agg ((l.drop off).take k)) else none
  | none => none
 else if plainT P t then l[off]? else none
def cellOk (hp : List HE) (v : SV) : Bool :=
 match v with
 | .hnd n => match hp[n]? with | some (.abs _) => true | _ => false
 | v => v.one
def fillS (hp : List HE) (place : Nat → Option (Nat × Nat)) (cells : List SV) : List (Nat × SV) → Option (List SV)
 | [] => some cells
 | (i, v) :: rest =>
   match place i with
   | none => none
   | some (off, size) =>
     if v.flat.length ≠ size || !v.flat.all (cellOk hp) then none else
     match splice cells off v.flat with
     | some c => fillS hp place c rest
     | none => none
def placeT (P : Program) (t : TypeId) : Option (Nat → Option (Nat × Nat)) :=
 match P.underlying t with
 | some (.struct fields) => if fields.toList.all (fun f => (sizeT P f.type).isSome) then some fun i => match fields[i]? with | some f => (sizeT P f.type).map fun s => (f.offset, s) | none => none else none
 | some (.array _ elem) => (sizeT P elem).map fun s => fun i => some (i * s, s)
 | _ => none
def baseS (hp : List HE) (n : Nat) : Option (List Bx) :=
 match hp[n]? with
 | some (.cells ..) => some []
 | some (.row _ _ i) => some (ltE (.lit 0) (.len i))
 | some (.sp ..) => some []
 | _ => none
def evalP (P : Program) (hp : List HE) (tm : Tm) (o : Oper) : Option (List Bx × SV) :=
 let ρ := evalO tm
 match o.op with
 | .move x | .assign x => some ([], ρ x)
 | .pick c a b =>
   match ρ c with
   | .bool (.lit true) => some ([], ρ a)
   | .bool (.lit false) => some ([], ρ b)
   | _ => none
 | .build t parts =>
   match zeroT P t, placeT P t with
   | some z, some pl => (fillS hp pl z (parts.toList.map fun (i, x) => (i, ρ x))).map fun l => ([], .agg l)
   | _, _ => none
 | .load t a => loadS P hp t (ρ a)
 | .nilCheck x =>
   match ρ x with
   | .ptr n o => some ([], .ptr n o)
   | .ptrx n e s o => some ([], .ptrx n e s o)
   | .func fn a b => if isMethod fn then none else some ([], .func fn a b)
   | .yld n => some ([], .yld n)
   | .hnd n => match hp[n]? with | some (.abs i) => some ([.not (.isnil i)], .hnd n) | _ => none
   | _ => none
 | .binOp op t x y _ => binS P hp op t (ρ x) (ρ y)
 | .unOp op _ x => (unS op (ρ x)).map fun v => ([], v)
 | .convert src dst x =>
   match P.underlying src, P.underlying dst, ρ x with
   | some _, some (.int k), .int _ e => some ([], .int k (mkConv k e))
   | _, _, _ => none
 | .makeFunc fn a b =>
   let a' := a.toList.map ρ; let b' := b.toList.map ρ
   if SV.sureL a' && SV.sureL b' then some ([], .func fn a' b') else none
 | .fieldAddr s x f =>
   match P.underlying s with
   | some (.struct fields) =>
     match fields[f]? with
     | some fd =>
       match sizeT P fd.type with
       | some (_ + 1) =>
         match ρ x with
         | .ptr n o => some ([], .ptr n (o + fd.offset))
         | .ptrx n e s o => some ([], .ptrx n e s (o + fd.offset))
         | _ => none
       | _ => none
     | none => none
   | _ => none
 | .field t x f =>
   match P.underlying t, ρ x with
   | some (.struct fields), .agg l =>
     match fields[f]? with
     | some fd => (partS P fd.type l fd.offset).map fun v => ([], v)
     | none => none
   | _, _ => none
 | .indexAddr t x i => indexAddrS P hp t (ρ x) (ρ i)
 | .index t x i =>
   match P.underlying t, ρ x, ρ i with
   | some (.array len elem), .agg l, .int _ (.lit j) =>
     match sizeT P elem with
     | some s => if 0 ≤ j ∧ j < len then (partS P elem l (j.toNat * s)).map fun v => ([], v) else none
     | none => none
   | _, _, _ => none
 | .extract t i =>
   match ρ t with
   | .tuple l => (l[i]?).map fun v => ([], v)
   | _ => none
 | .slice t x none hi none =>
   match P.underlying t with
   | some (.array N elem) =>
     match sizeT P elem, ρ x, hi with
     | some _, .ptr n 0, none => (baseS hp n).map fun ns => (ns, .slice n (.lit N) (.lit N))
     | some _, .ptr n 0, some h =>
       match ρ h with
       | .int _ e => (baseS hp n).map fun ns => (leE (.lit 0) e ++ leE e (.lit N) ++ ns, .slice n e (.lit N))
       | _ => none
     | _, _, _ => none
   | some (.slice elem) =>
     match sizeT P elem, ρ x, hi with
     | some _, .slice n _ cap, some h =>
       match ρ h with
       | .int _ e => some (leE (.lit 0) e ++ leE e cap, .slice n e cap)
       | _ => none
     | _, _, _ => none
   | _ => none
 | .slice t x (some lo) none none =>
   match P.underlying t with
   | some (.slice elem) =>
     match sizeT P elem, ρ x, ρ lo with
     | some 1, .slice n len cap, .int _ (.lit (.ofNat off)) => if off ≤ 1000000 then some (leE (.lit (off : Nat)) len ++ leE len cap, .slicx n off len cap) else none
     | _, _, _ => none
   | _ => none
 | .call { callee := .builtin .len, args, argTypes } =>
   match args.toList.map ρ, argTypes.toList with
   | [.slice _ len _], t :: _ =>
     match P.underlying t with
     | some (.slice _) => some (leE (.lit 0) len, .int .i64 len)
     | _ => none
   | [.slicx _ off len _], t :: _ =>
     match P.underlying t with
     | some (.slice _) => some (leE (.lit (off : Nat)) len ++ leE len (.lit 1000000), .int .i64 (mkBin .sub .i64 len (.lit (off : Nat))))
     | _ => none
   | [.nils], t :: _ =>
     match P.underlying t with
     | some (.slice _) => some ([], .int .i64 (.lit 0))
     | _ => none
   | _, _ => none
 | .call { callee := .builtin .min, args, argTypes } =>
   match args.toList.map ρ with
   | [.int k (.lit x), .int k' (.lit y)] => if k = k' then some ([], .int k (.lit (if y < x then y else x))) else none
   | _ => none
 | .call { callee := .builtin .max, args, argTypes } =>
   match args.toList.map ρ with
   | [.int .i64 (.lit (.ofNat 1)), .int .i64 e] => some (leE (.lit 0) e ++ leE e (.lit 1000000), .int .i64 (mkBin .add .i64 e (mkBin .shr .i64 (.lit 1) e)))
   | _ => none
 | .lookup t m x true =>
   match P.underlying t, ρ m, ρ x with
   | some (.map kt et), .mapv n, .int .i64 e =>
     match P.underlying kt, (P.info? et).bind (·.zero), hp[n]? with
     | some (.int .i64), some (.agg z), some (.mp i) => if z.isEmpty then some ([], .tuple [.agg [], .bool (.mem i e)]) else none
     | _, _, _ => none
   | _, _, _ => none
 | .makeInterface t x =>
   match P.underlying t with
   | some (.interface _) => none
   | some _ => match (ρ x).sure with | true => some ([], .iface t [ρ x]) | false => none
   | none => none
 | _ => none
def methodS (P : Program) (t : TypeId) (name : String) : Option FuncId :=
 match P.info? t with
 | none => none
 | some i =>
   match i.methods.find? (·.name == name), P.underlying t, P.types.size with
   | some m, some u, _ + 1 =>
     match m.path.toList, m.func, u with
     | _, _, .pointer _ => none
     | [], some (g, false), _ => some g
     | _, _, _ => none
   | _, _, _ => none
structure MS where
 β : List (Option Bnd)
 σ : List (Option Nat)
def unE (m : MS) (t a : Ex) : Option MS :=
 match t with
 | .var i =>
   match m.β[i]? with
   | some none => some { m with β := m.β.set i (some (.ex a)) }
   | _ => some m
 | _ => some m
def unB (m : MS) (t a : Bx) : Option MS :=
 match t with
 | .var i =>
   match m.β[i]? with
   | some none => some { m with β := m.β.set i (some (.bx a)) }
   | _ => some m
 | _ => some m
def unN (m : MS) (t a : Nat) : Option MS :=
 match m.σ[t]? with
 | some none => some { m with σ := m.σ.set t (some a) }
 | some (some b) => if a = b then some m else none
 | none => none
def unV (m : MS) (t a : Nat) : Option MS :=
 match m.β[t]? with
 | some none => some { m with β := m.β.set t (some (.var a)) }
 | _ => some m
mutual
def unS' (m : MS) : SV → SV → Option MS
 | .int _ e, .int _ e' => unE m e e'
 | .bool b, .bool b' => unB m b b'
 | .ptr n o, .ptr n' o' => if o = o' then unN m n n' else none
 | .hnd n, .ptr n' 0 => unN m n n'
 | .hnd n, .hnd n' => unN m n n'
 | .ptrx n e _ _, .ptrx n' e' _ _ => (unN m n n').bind fun m => unE m e e'
 | .slice n l c, .slice n' l' c' => (unN m n n').bind fun m => (unE m l l').bind fun m => unE m c c'
 | .slicx n o l c, .slicx n' o' l' c' => if o = o' then (unN m n n').bind fun m => (unE m l l').bind fun m => unE m c c' else none
 | .func fn a b, .func fn' a' b' => if fn = fn' then (unL m a a').bind fun m => unL m b b' else none
 | .agg l, .agg l' => unL m l l'
 | .tuple l, .tuple l' => unL m l l'
 | .iface t l, .iface t' l' => if t = t' then unL m l l' else none
 | .nilp, .nilp => some m
 | .nils, .nils => some m
 | .nilf, .nilf => some m
 | .yld n, .yld n' => unN m n n'
 | .mapv n, .mapv n' => unN m n n'
 | .str a, .str b => if a = b then some m else none
 | .junk, _ => some m
 | _, _ => none
def unL (m : MS) : List SV → List SV → Option MS
 | [], [] => some m
 | t :: ts, a :: as => (unS' m t a).bind fun m => unL m ts as
 | _, _ => none
end
def unH (m : MS) (t a : HE) : Option MS :=
 match t, a with
 | .cells vs ty, .cells vs' ty' => if ty = ty' then unL m vs vs' else none
 | .abs i, .abs j => unV m i j
 | .row _ _ i, .row _ _ j => unV m i j
 | .ro _ i, .ro _ j => unV m i j
 | .sys i a, .sys j b => if a = b then unV m i j else none
 | .gone, _ => some m
 | .sp .., a => if t.beq a then some m else none
 | .mp i, .mp j => unV m i j
 | .kn _ _ _ i, .kn _ _ _ j => unV m i j
 | .kc vs _ _ i, .kc vs' _ _ j => (unV m i j).bind fun m => unL m vs vs'
 | .rb _ i, .rb _ j => unV m i j
 | _, _ => none
def unHp (hp : List HE) : Nat → List HE → MS → Option MS
 | _, [], m => some m
 | n, t :: ts, m =>
   match m.σ[n]? with
   | some (some a) => match hp[a]? with | some h => (unH m t h).bind fun m => unHp hp (n + 1) ts m | none => none
   | _ => none
def Ex.subst (β : List Bnd) : Ex → Option Ex
 | .lit n => some (.lit n)
 | .var i => match β[i]? with | some (.ex e) => some e | some (.var j) => some (.var j) | _ => none
 | .bin op k a b => (a.subst β).bind fun a => (b.subst β).map fun b => mkBin op k a b
 | .conv k a => (a.subst β).map fun a => mkConv k a
 | .len i => match β[i]? with | some (.var j) => some (.len j) | _ => none
 | .nth i e => match β[i]? with | some (.var j) => (e.subst β).map fun e => .nth j e | _ => none
 | .fld i e c => match β[i]? with | some (.var j) => (e.subst β).map fun e => .fld j e c | _ => none
 | .nrow i => match β[i]? with | some (.var j) => some (.nrow j) | _ => none
def Bx.subst (β : List Bnd) : Bx → Option Bx
 | .lit b => some (.lit b)
 | .var i => match β[i]? with | some (.bx b) => some b | some (.var j) => some (.var j) | _ => none
 | .cmp op a b => (a.subst β).bind fun a => (b.subst β).map fun b => mkCmp op a b
 | .beq a b => (a.subst β).bind fun a => (b.subst β).map fun b => mkBeq a b
 | .not a => (a.subst β).map fun a => mkNot a
 | .and a b => (a.subst β).bind fun a => (b.subst β).map fun b => mkAnd a b
 | .isnil i => match β[i]? with | some (.var j) => some (.isnil j) | _ => none
 | .mem i e => match β[i]? with | some (.var j) => (e.subst β).map fun e => .mem j e | _ => none
 | .fld i e c => match β[i]? with | some (.var j) => (e.subst β).map fun e => .fld j e c | _ => none
mutual
def SV.subst (β : List Bnd) (σ : List Nat) : SV → Option SV
 | .int k e => (e.subst β).map fun e => .int k e
 | .bool b => (b.subst β).map fun b => .bool b
 | .nilp => some .nilp
 | .ptr n off => (σ[n]?).map fun n => .ptr n off
 | .ptrx n e sz off => (σ[n]?).bind fun n => (e.subst β).map fun e => .ptrx n e sz off
 | .hnd n => (σ[n]?).map fun n => .hnd n
 | .nils => some .nils
 | .slice n l c => (σ[n]?).bind fun n => (l.subst β).bind fun l => (c.subst β).map fun c => .slice n l c
 | .slicx n o l c => (σ[n]?).bind fun n => (l.subst β).bind fun l => (c.subst β).map fun c => .slicx n o l c
 | .func fn a b => (SV.substL β σ a).bind fun a => (SV.substL β σ b).map fun b => .func fn a b
 | .nilf => some .nilf
 | .agg l => (SV.substL β σ l).map fun l => .agg l
 | .tuple l => (SV.substL β σ l).map fun l => .tuple l
 | .iface t l => (SV.substL β σ l).map fun l => .iface t l
 | .rowv k i => match β[i]? with | some (.var j) => some (.rowv k j) | _ => none
 | .yld n => (σ[n]?).map fun n => .yld n
 | .mapv n => (σ[n]?).map fun n => .mapv n
 | .str s => some (.str s)
 | .junk => some .junk
def SV.substL (β : List Bnd) (σ : List Nat) : List SV → Option (List SV)
 | [] => some []
 | v :: l => (SV.subst β σ v).bind fun v => (SV.substL β σ l).map fun l => v :: l
end
def HE.subst (β : List Bnd) (σ : List Nat) : HE → Option HE
 | .cells vs t => (SV.substL β σ vs).map fun vs => .cells vs t
 | .abs i => match β[i]? with | some (.var j) => some (.abs j) | _ => none
 | .row k t i => match β[i]? with | some (.var j) => some (.row k t j) | _ => none
 | .ro ks i => match β[i]? with | some (.var j) => some (.ro ks j) | _ => none
 | .sys i a => match β[i]? with | some (.var j) => some (.sys j a) | _ => none
 | .gone => some .gone
 | .sp k t l xs => some (.sp k t l xs)
 | .mp i => match β[i]? with | some (.var j) => some (.mp j) | _ => none
 | .kn k t xs i => match β[i]? with | some (.var j) => some (.kn k t xs j) | _ => none
 | .kc vs t sz i => match β[i]? with | some (.var j) => (SV.substL β σ vs).map fun vs => .kc vs t sz j | _ => none
 | .rb t i => match β[i]? with | some (.var j) => some (.rb t j) | _ => none
def Ex.inScope (n : Nat) : Ex → Bool
 | .lit _ => true
 | .var i => i < n
 | .bin _ _ a b => a.inScope n && b.inScope n
 | .conv _ a => a.inScope n
 | .len i => i < n
 | .nth i e => i < n && e.inScope n
 | .fld i e _ => i < n && e.inScope n
 | .nrow i => i < n
def Bx.inScope (n : Nat) : Bx → Bool
 | .lit _ => true
 | .var i => i < n
 | .cmp _ a b => a.inScope n && b.inScope n
 | .beq a b => a.inScope n && b.inScope n
 | .not a => a.inScope n
 | .and a b => a.inScope n && b.inScope n
 | .isnil i => i < n
 | .fld i e _ => i < n && e.inScope n
 | .mem i e => i < n && e.inScope n
def Bnd.inScope (n : Nat) : Bnd → Bool
 | .ex e => e.inScope n
 | .bx b => b.inScope n
 | .var i => i < n
def allSome {α : Type} : List (Option α) → Option (List α)
 | [] => some []
 | some a :: l => (allSome l).map (a :: ·)
 | none :: _ => none
def nodup : List Nat → Bool
 | [] => true
 | a :: l => !l.contains a && nodup l
def liveN : List Nat → List HE → List Nat
 | a :: l, h :: hs => (match h with | .gone => liveN l hs | _ => a :: liveN l hs)
 | l, [] => l
 | [], _ => []
def chkL (β : List Bnd) (σ : List Nat) (ts as : List SV) : Bool :=
 match SV.substL β σ ts with
 | some l => SV.beqL l as && SV.sureL l
 | none => false
def chkHp (β : List Bnd) (σ : List Nat) (hp : List HE) : Nat → List HE → Bool
 | _, [] => true
 | n, t :: ts =>
   (match σ[n]? with
    | some a => match hp[a]?, t.subst β σ with | some h, some h' => h'.beq h && (match h' with | .cells vs _ => SV.sureL vs | _ => true) | _, _ => false
    | none => false) && chkHp β σ hp (n + 1) ts
def chkHpG (β : List Bnd) (σ : List Nat) (hp : List HE) : Nat → List HE → Bool
 | _, [] => true
 | n, .gone :: ts => chkHpG β σ hp (n + 1) ts
 | n, t :: ts =>
   (match σ[n]? with
    | some a => match hp[a]?, t.subst β σ with | some h, some h' => h'.beq h && (match h' with | .cells vs _ => SV.sureL vs | _ => true) | _, _ => false
    | none => false) && chkHpG β σ hp (n + 1) ts
def substHp (β : List Bnd) (σ : List Nat) (hp : List HE) : Nat → List HE → Option (List HE)
 | _, [] => some hp
 | n, .ro _ _ :: ts =>
   match σ[n]? with
   | some a => match hp[a]? with | some (.ro _ _) => substHp β σ hp (n + 1) ts | _ => none
   | none => none
 | n, t :: ts =>
   match σ[n]?, t.subst β σ with
   | some a, some h => (substHp β σ hp (n + 1) ts).map fun hp' => hp'.set a h
   | _, _ => none
def substNew (β : List Bnd) (σ : List Nat) : List HE → Option (List HE)
 | [] => some []
 | .ro _ _ :: _ => none
 | t :: ts => (t.subst β σ).bind fun h => (substNew β σ ts).map (h :: ·)
structure Cx (U : Type) where
 P : Program
 cts : List (Ctr U)
 objs : List (ObjT U)
 loops : List (LoopS U)
 hints : List (Nat × Nat × List Nat)
 join : Bool := false
 fast : Bool := false
 split : List (FuncId × Nat) := []
def outOf : List (Nat × Nat × List Nat) → Nat → Nat → List Nat
 | [], _, _ => []
 | (f, r, l) :: hs, f', r' => if f = f' ∧ r = r' then l else outOf hs f' r'
def Cx.out {U : Type} (X : Cx U) (f r : Nat) : List Nat := outOf X.hints f r
def needs : List Bx → Tree → Tree
 | [], k => k
 | b :: l, k => match b with | .lit false => .need (.lit false) .ok | b => .need b (needs l k)
mutual
def SV.mapN (g : SV → SV) : SV → SV
 | .func fn a b => .func fn (SV.mapNL g a) (SV.mapNL g b)
 | .agg l => .agg (SV.mapNL g l)
 | .tuple l => .tuple (SV.mapNL g l)
 | .iface t l => .iface t (SV.mapNL g l)
 | v => g v
def SV.mapNL (g : SV → SV) : List SV → List SV
 | [] => []
 | v :: l => SV.mapN g v :: SV.mapNL g l
end
def HE.mapN (g : SV → SV) : HE → HE
 | .cells vs t => .cells (SV.mapNL g vs) t
 | .kc vs t sz i => .kc (SV.mapNL g vs) t sz i
 | h => h
def swapH (n : Nat) (v : SV) : SV → SV
 | .hnd m => if m = n then v else .hnd m
 | w => w
def swapP (n : Nat) : SV → SV
 | .ptr m 0 => if m = n then .hnd n else .ptr m 0
 | w => w
def Tm.mapN (g : SV → SV) (m : Tm) : Tm := { m with t := m.t.map (SV.mapN g), dfs := m.dfs.map fun (f, l) => (f, SV.mapNL g l) }
def St.mapN (g : SV → SV) (st : St) : St := { st with tm := st.tm.mapN g, stk := st.stk.map (Tm.mapN g), hp := st.hp.map (HE.mapN g) }
def fNat {α : Type} (n : Nat) (k : Nat → α) : α := match n with | 0 => k 0 | m + 1 => k (m + 1)
def Ex.force {α : Type} : Ex → (Ex → α) → α
 | .bin op kd a b, k => a.force fun a => b.force fun b => k (.bin op kd a b)
 | .conv kd a, k => a.force fun a => k (.conv kd a)
 | .nth i e, k => e.force fun e => k (.nth i e)
 | .fld i e c, k => e.force fun e => k (.fld i e c)
 | .lit n, k => k (.lit n)
 | .var i, k => fNat i fun i => k (.var i)
 | .len i, k => k (.len i)
 | .nrow i, k => k (.nrow i)
def Bx.force {α : Type} : Bx → (Bx → α) → α
 | .cmp op a b, k => a.force fun a => b.force fun b => k (.cmp op a b)
 | .beq a b, k => a.force fun a => b.force fun b => k (.beq a b)
 | .not a, k => a.force fun a => k (.not a)
 | .and a b, k => a.force fun a => b.force fun b => k (.and a b)
 | .fld i e c, k => e.force fun e => k (.fld i e c)
 | .lit b, k => match b with | true => k (.lit true) | false => k (.lit false)
 | .var i, k => fNat i fun i => k (.var i)
 | .isnil i, k => k (.isnil i)
 | .mem i e, k => e.force fun e => k (.mem i e)
mutual
def SV.force {α : Type} : SV → (SV → α) → α
 | .int kd e, k => e.force fun e => k (.int kd e)
 | .bool b, k => b.force fun b => k (.bool b)
 | .nilp, k => k .nilp
 | .ptr n o, k => fNat n fun n => fNat o fun o => k (.ptr n o)
 | .ptrx n e s o, k => fNat n fun n => e.force fun e => k (.ptrx n e s o)
 | .hnd n, k => fNat n fun n => k (.hnd n)
 | .nils, k => k .nils
 | .slice n l c, k => fNat n fun n => l.force fun l => c.force fun c => k (.slice n l c)
 | .slicx n o l c, k => fNat n fun n => l.force fun l => c.force fun c => k (.slicx n o l c)
 | .func fn a b, k => SV.forceL a fun a => SV.forceL b fun b => k (.func fn a b)
 | .nilf, k => k .nilf
 | .agg l, k => SV.forceL l fun l => k (.agg l)
 | .tuple l, k => SV.forceL l fun l => k (.tuple l)
 | .iface t l, k => SV.forceL l fun l => k (.iface t l)
 | .rowv kd i, k => k (.rowv kd i)
 | .yld n, k => fNat n fun n => k (.yld n)
 | .mapv n, k => fNat n fun n => k (.mapv n)
 | .str s, k => k (.str s)
 | .junk, k => k .junk
def SV.forceL {α : Type} : List SV → (List SV → α) → α
 | [], k => k []
 | v :: l, k => v.force fun v => SV.forceL l fun l => k (v :: l)
end
def spForce {α : Type} : List (Nat × Int) → (List (Nat × Int) → α) → α
 | [], k => k []
 | (i, x) :: l, k => fNat i fun i => spForce l fun l => k ((i, x) :: l)
def HE.force {α : Type} : HE → (HE → α) → α
 | .cells vs t, k => SV.forceL vs fun vs => k (.cells vs t)
 | .abs i, k => fNat i fun i => k (.abs i)
 | .row kd t i, k => fNat i fun i => k (.row kd t i)
 | .ro ks i, k => k (.ro ks i)
 | .sys i j, k => k (.sys i j)
 | .gone, k => k .gone
 | .sp kd t l xs, k => spForce xs fun xs => k (.sp kd t l xs)
 | .mp i, k => fNat i fun i => k (.mp i)
 | .kn kd t xs i, k => fNat i fun i => k (.kn kd t xs i)
 | .kc vs t sz i, k => SV.forceL vs fun vs => fNat i fun i => k (.kc vs t sz i)
 | .rb t i, k => fNat i fun i => k (.rb t i)
def HE.forceL {α : Type} : List HE → (List HE → α) → α
 | [], k => k []
 | h :: l, k => h.force fun h => HE.forceL l fun l => k (h :: l)
def St.force {α : Type} (st : St) (k : St → α) : α := HE.forceL st.hp fun hp => fNat st.ne fun ne => k { tm := st.tm, stk := st.stk, hp := hp, ne := ne, pc := st.pc }
def fBools {α : Type} : List Bool → (List Bool → α) → α
 | [], k => k []
 | true :: l, k => fBools l fun l => k (true :: l)
 | false :: l, k => fBools l fun l => k (false :: l)
def fArr {α : Type} (a : Array Bool) (k : Array Bool → α) : α := fBools a.toList fun l => k ⟨l⟩
theorem fBools_eq {α : Type} : ∀ (l : List Bool) (k : List Bool → α), fBools l k = k l
 | [], k => rfl
 | true :: l, k => by simp only [fBools, fBools_eq l]
 | false :: l, k => by simp only [fBools, fBools_eq l]
theorem fArr_eq {α : Type} (a : Array Bool) (k : Array Bool → α) : fArr a k = k a := by simp only [fArr, fBools_eq]
theorem free_static {ops : Array Oper} {listed : Array Bool} {i : Nat} (h : Region.free .any ops (Array.replicate ops.size false) i = true) : Region.free .any ops listed i = true := by
 unfold Region.free at h ⊢
 split at h
 · cases h
 · rename_i oi hoi
   simp only [List.all_eq_true, List.mem_range] at h ⊢
   intro j hj
   have := h j hj
   have e : (Array.replicate ops.size false).getD j true = false := by simp [Array.getD, hj]
   rw [e] at this
   simp only [Bool.or_false] at this
   simp only [Bool.or_eq_true] at this ⊢
   exact this.elim (fun h => .inl (.inl h)) .inr
theorem fNat_eq {α : Type} (n : Nat) (k : Nat → α) : fNat n k = k n := by cases n <;> rfl
theorem Ex.force_eq {α : Type} : ∀ (e : Ex) (k : Ex → α), e.force k = k e := by
 intro e
 induction e <;> intro k <;> simp only [Ex.force, fNat_eq, *]
theorem Bx.force_eq {α : Type} : ∀ (e : Bx) (k : Bx → α), e.force k = k e := by
 intro e
 induction e <;> intro k <;> try simp only [Bx.force, fNat_eq, Ex.force_eq, *]
 case lit b => cases b <;> rfl
mutual
theorem SV.force_eq {α : Type} : ∀ (v : SV) (k : SV → α), v.force k = k v
 | .int kd e, k => by simp only [SV.force, Ex.force_eq]
 | .bool b, k => by simp only [SV.force, Bx.force_eq]
 | .nilp, k => rfl
 | .ptr n o, k => by simp only [SV.force, fNat_eq]
 | .ptrx n e s o, k => by simp only [SV.force, fNat_eq, Ex.force_eq]
 | .hnd n, k => by simp only [SV.force, fNat_eq]
 | .nils, k => rfl
 | .slice n l c, k => by simp only [SV.force, fNat_eq, Ex.force_eq]
 | .slicx n o l c, k => by simp only [SV.force, fNat_eq, Ex.force_eq]
 | .func fn a b, k => by simp only [SV.force, SV.forceL_eq a, SV.forceL_eq b]
 | .nilf, k => rfl
 | .agg l, k => by simp only [SV.force, SV.forceL_eq l]
 | .tuple l, k => by simp only [SV.force, SV.forceL_eq l]
 | .iface t l, k => by simp only [SV.force, SV.forceL_eq l]
 | .rowv kd i, k => rfl
 | .yld n, k => by simp only [SV.force, fNat_eq]
 | .mapv n, k => by simp only [SV.force, fNat_eq]
 | .str s, k => rfl
 | .junk, k => rfl
theorem SV.forceL_eq {α : Type} : ∀ (l : List SV) (k : List SV → α), SV.forceL l k = k l
 | [], k => rfl
 | v :: l, k => by simp only [SV.forceL, SV.force_eq v, SV.forceL_eq l]
end
theorem spForce_eq {α : Type} : ∀ (l : List (Nat × Int)) (k : List (Nat × Int) → α), spForce l k = k l
 | [], k => rfl
 | (i, x) :: l, k => by simp only [spForce, fNat_eq, spForce_eq l]
theorem HE.force_eq {α : Type} (h : HE) (k : HE → α) : h.force k = k h := by cases h <;> simp only [HE.force, SV.forceL_eq, fNat_eq, spForce_eq]
theorem HE.forceL_eq {α : Type} : ∀ (l : List HE) (k : List HE → α), HE.forceL l k = k l
 | [], k => rfl
 | v :: l, k => by simp only [HE.forceL, HE.force_eq v, HE.forceL_eq l]
def HE.force0 {α : Type} : HE → (HE → α) → α
 | .cells vs t, k => k (.cells vs t)
 | .abs i, k => fNat i fun i => k (.abs i)
 | .row kd t i, k => fNat i fun i => k (.row kd t i)
 | .ro ks i, k => k (.ro ks i)
 | .sys i j, k => k (.sys i j)
 | .gone, k => k .gone
 | .sp kd t l xs, k => k (.sp kd t l xs)
 | .mp i, k => fNat i fun i => k (.mp i)
 | .kn kd t xs i, k => fNat i fun i => k (.kn kd t xs i)
 | .kc vs t sz i, k => fNat i fun i => k (.kc vs t sz i)
 | .rb t i, k => fNat i fun i => k (.rb t i)
def HE.forceAt {α : Type} : Nat → List HE → (List HE → α) → α
 | _, [], k => k []
 | n, h :: l, k =>
   match n with
   | 0 => h.force fun h => HE.forceAt 1000000 l fun l => k (h :: l)
   | n + 1 => h.force0 fun h => HE.forceAt n l fun l => k (h :: l)
theorem HE.force0_eq {α : Type} (h : HE) (k : HE → α) : h.force0 k = k h := by cases h <;> simp only [HE.force0, fNat_eq]
theorem HE.forceAt_eq {α : Type} : ∀ (n : Nat) (l : List HE) (k : List HE → α), HE.forceAt n l k = k l
 | _, [], k => rfl
 | 0, v :: l, k => by simp only [HE.forceAt, HE.force_eq v, HE.forceAt_eq _ l]
 | n + 1, v :: l, k => by simp only [HE.forceAt, HE.force0_eq v, HE.forceAt_eq n l]
def St.forceAt {α : Type} (n : Nat) (st : St) (k : St → α) : α := HE.forceAt n st.hp fun hp => fNat st.ne fun ne => k { tm := st.tm, stk := st.stk, hp := hp, ne := ne, pc := st.pc }
theorem St.forceAt_eq {α : Type} (n : Nat) (st : St) (k : St → α) : st.forceAt n k = k st := by simp only [St.forceAt, HE.forceAt_eq, fNat_eq]
theorem St.force_eq {α : Type} (st : St) (k : St → α) : st.force k = k st := by simp only [St.force, HE.forceL_eq, fNat_eq]
section
variable {U : Type}
def tryCtr (c : Ctr U) (ci : Nat) (args : List SV) (st : St) (K : SV → St → Tree) : Option Tree :=
 match unL ⟨List.replicate c.nin none, List.replicate c.heap.length none⟩ c.args args with
 | none => none
 | some m =>
   match unHp st.hp 0 c.heap m with
   | none => none
   | some m =>
     match allSome m.β, allSome m.σ with
     | some β, some σ =>
       if chkL β σ c.args args && chkHp β σ st.hp 0 c.heap && nodup σ && decide (c.heap.length ≤ c.post.length) && decide (β.length = c.nin) && decide (σ.length = c.heap.length) && β.all (Bnd.inScope st.ne) && σ.all (· < st.hp.length) then
        let β' := β ++ (List.range c.nout).map fun j => .var (st.ne + j)
        let σ' := σ ++ (List.range (c.post.length - c.heap.length)).map (st.hp.length + ·)
        match c.ret.subst β' σ', substHp β' σ' st.hp 0 (c.post.take c.heap.length), substNew β' σ' (c.post.drop c.heap.length) with
        | some v, some hp1, some hp2 =>
          match c.many with
          | none =>
            match c.rel with
            | none => some (.call ci β (K v { st with hp := hp1 ++ hp2, ne := st.ne + c.nout }))
            | some _ => some (.callm ci β (K v { st with hp := hp1 ++ hp2, ne := st.ne + c.nout }))
          | some _ => some (.callm ci β (K v { st with hp := hp1 ++ hp2, ne := st.ne + c.nout }))
        | _, _, _ => none
       else none
     | _, _ => none
def tryCtrs (f : FuncId) (args : List SV) (st : St) (K : SV → St → Tree) : Nat → List (Ctr U) → Option Tree
 | _, [] => none
 | ci, c :: cs =>
   if c.fn = f then
    match tryCtr c ci args st K with
    | some t => some t
    | none => tryCtrs f args st K (ci + 1) cs
   else tryCtrs f args st K (ci + 1) cs
def allInts (k : IntKind) : List SV → Option (List Ex)
 | [] => some []
 | .int k' e :: l => if k = k' then (allInts k l).map (e :: ·) else none
 | _ :: _ => none
def rowArgs (hp : List HE) : List SV → List SV → List Nat
 | .slice m _ _ :: cs, .slice n _ _ :: as => (match hp[m]? with | some (.row ..) => [n] | _ => []) ++ rowArgs hp cs as
 | _ :: cs, _ :: as => rowArgs hp cs as
 | _, _ => []
def wantRows (cts : List (Ctr U)) (f : FuncId) (args : List SV) : List Nat := (cts.filter fun c => c.fn = f).flatMap fun c => rowArgs c.heap c.args args
def toRows (P : Program) : List Nat → St → (St → Tree) → Tree
 | [], st, K => K st
 | n :: l, st, K =>
   match st.hp[n]? with
   | some (.cells vs ty) =>
     match P.underlying ty with
     | some (.int k) =>
       match allInts k vs with
       | some xs => .ext (.lst xs) (toRows P l { st with hp := st.hp.set n (.row k ty st.ne), ne := st.ne + 1 } K)
       | none => toRows P l st K
     | _ => toRows P l st K
   | _ => toRows P l st K
def zeroRow (P : Program) (t : TypeId) : Option (IntKind × Nat) :=
 match P.underlying t, (P.info? t).bind (·.zero) with
 | some (.array len elem), some z =>
   match P.underlying elem with
   | some (.int k) => if 64 < len && z.cells.toList.all (fun v => match v with | .int k' n => k == k' && n == 0 | _ => false) && z.cells.toList.length == len then some (k, len) else none
   | _ => none
 | _, _ => none
def assoc {α : Type} (n : Nat) : List (Nat × α) → Option α
 | [] => none
 | (m, a) :: l => if m = n then some a else assoc n l
def splitV (k : IntKind) (e : Ex) (K : SV → Tree) : Nat → Nat → Tree
 | _, 0 => .need (.lit false) .ok
 | j, m + 1 => .br (.cmp .eql e (.lit j)) (K (.int k (.lit j))) (splitV k e K (j + 1) m)
def retK {U : Type} (X : Cx U) (g : FuncId) (v : SV) (K : SV → Tree) : Tree :=
 match v with
 | .int k (.lit n) => K (.int k (.lit n))
 | .int k e => match assoc g X.split with | some n => splitV k e K 0 n | none => K (.int k e)
 | v => K v
def appGo {U : Type} (X : Cx U) (o : Oper) (st : St) (K : St → Tree) (s : SV) (k : IntKind) (elem : TypeId) (l : Ex) (h : HE) (mk : Option Nat → Ex → Tree → Tree) : Tree :=
 match s with
 | .nils => mk none (.lit 0) (K ({ st with hp := st.hp ++ [h], ne := st.ne + 2 }.put o.dst (.slice st.hp.length l (.var (st.ne + 1)))))
 | .slice n1 e ce =>
   match st.hp[n1]? with
   | some (.row k3 ty i) =>
     if decide (k3 = k) && decide (ty = elem) then
      needs (leE (.lit 0) e ++ (leE e ce ++ (leE ce (.len i) ++ (leE (.len i) ce ++ leE e (.lit 1000000))))) (mk (some i) e (K ({ st with hp := st.hp.set n1 .gone ++ [h], ne := st.ne + 2 }.put o.dst (.slice st.hp.length (mkBin .add .i64 e l) (.var (st.ne + 1))))))
     else .fail "append row kind"
   | _ => .fail "append to row"
 | _ => .fail "append to where"
def elemInt (P : Program) : List TypeId → Bool
 | t :: _ =>
   match P.underlying t with
   | some (.slice elem) => match P.underlying elem with | some (.int _) => true | _ => false
   | _ => true
 | _ => true
def appC {U : Type} (X : Cx U) (o : Oper) (st : St) (K : St → Tree) : List SV → List TypeId → Tree
 | [s, .slice n2 (.lit 1) _], [t, t2] =>
   if t2 = t then
    match X.P.underlying t, st.hp[n2]? with
    | some (.slice elem), some (.cells vs _) =>
      match zeroT X.P elem, X.P.info? elem with
      | some zs, some inf =>
        if decide (zs.length = inf.size) && decide (vs.length = inf.size) && decide (0 < inf.size) && decide (inf.bytes ≤ 4096) && vs.all (cellOk st.hp) then
         match s with
         | .nils => .apps none (.lit 0) [.lit 0] (K ({ st with hp := st.hp ++ [HE.kc vs elem inf.size st.ne], ne := st.ne + 2 }.put o.dst (.slice st.hp.length (.lit 1) (.var (st.ne + 1)))))
         | .slice n1 (.lit (.ofNat e)) ce =>
           match st.hp[n1]? with
           | some (.kc us ty sz i) =>
             if decide (ty = elem) && decide (sz = inf.size) && decide (us.length = e * sz) && decide (e < 1000) then
              needs (leE (.lit e) ce ++ (leE ce (.len i) ++ leE (.len i) ce)) (.apps (some i) (.lit e) [.lit 0] (K ({ st with hp := st.hp.set n1 .gone ++ [HE.kc (us ++ vs) elem sz st.ne], ne := st.ne + 2 }.put o.dst (.slice st.hp.length (.lit (e + 1 : Nat)) (.var (st.ne + 1))))))
             else .fail "append cells kind"
           | _ => .fail "append to what cells"
         | _ => .fail "append to where"
        else .fail "append value"
      | _, _ => .fail "append zero"
    | _, _ => .fail "append what"
   else .fail "append types"
 | _, _ => .fail "append what"
def appM {U : Type} (X : Cx U) (o : Oper) (st : St) (K : St → Tree) : List SV → List TypeId → Tree
 | [s, .slice n2 e2 _], [t, t2] =>
   if t2 = t then
    match X.P.underlying t with
    | some (.slice elem) =>
      match X.P.underlying elem, X.P.info? elem with
      | some (.int k), some inf =>
        match inf.zero with
        | some (.int k'' 0) =>
          if decide (k'' = k) && decide (inf.size = 1) && decide (inf.bytes ≤ 8) then
           match st.hp[n2]?, e2 with
           | some (.cells vs _), .lit (.ofNat (m + 1)) =>
             match allInts k vs with
             | some xs => if decide (xs.length = m + 1) && decide (m < 1000) then appGo X o st K s k elem (.lit (m + 1 : Nat)) (.row k elem st.ne) (fun i e t => .apps i e xs t) else .fail "append cells"
             | none => .fail "append no ints"
           | some (.row k2 _ j), _ =>
             if k2 = k then
              needs (leE (.lit 0) e2 ++ (leE e2 (.len j) ++ leE e2 (.lit 1000000)))
               (.br (.cmp .eql e2 (.lit 0)) (match s with | .nils => K (st.put o.dst s) | .slice _ e ce => needs (leE (.lit 0) e ++ leE e ce) (K (st.put o.dst s)) | _ => .fail "append to where")
                 (appGo X o st K s k elem e2 (.row k elem st.ne) (fun i e t => .appr i e j e2 t)))
             else .fail "append kind"
           | _, _ => .fail "append from where"
          else .fail "append kind"
        | _ => .fail "append zero"
      | _, _ => .fail "append elem"
    | _ => .fail "append what"
   else .fail "append types"
 | _, _ => .fail "append what"
def litInts (k : IntKind) : List SV → Option (List Int)
 | [] => some []
 | .int k' (.lit n) :: l => match decide (k' = k) with | true => (litInts k l).map (n :: ·) | false => none
 | _ :: _ => none
def appPre {U : Type} (X : Cx U) (l : List SV) (st : St) (K : St → Tree) : Tree :=
 match l with
 | .slice n1 (.lit (.ofNat (e + 1))) (.lit _) :: _ =>
   match st.hp[n1]? with
   | some (.cells vs ty) =>
     match X.P.underlying ty with
     | some (.int k) =>
       match allInts k vs with
       | some xs =>
         match X.join, litInts k vs with
         | true, some ns => match decide (ns.length = xs.length) with | true => .ext (.lst xs) (K { st with hp := st.hp.set n1 (.kn k ty ns st.ne), ne := st.ne + 1 }) | false => K st
         | _, _ => .ext (.lst xs) (K { st with hp := st.hp.set n1 (.row k ty st.ne), ne := st.ne + 1 })
       | none => K st
     | _ => K st
   | _ => K st
 | _ => K st
def appK {U : Type} (X : Cx U) (o : Oper) (st : St) (K : St → Tree) (l : List SV) (ts : List TypeId) : Option Tree :=
 match X.join, l, ts with
 | true, [s, .slice n2 (.lit e2) _], [t, t2] =>
   match decide (t2 = t), X.P.underlying t, st.hp[n2]? with
   | true, some (.slice elem), some (.cells vs _) =>
     match X.P.underlying elem, X.P.info? elem with
     | some (.int k), some inf =>
       match inf.zero with
       | some (.int k'' 0) =>
         match decide (k'' = k) && decide (inf.size = 1) && decide (inf.bytes ≤ 8), litInts k vs with
         | true, some (x :: xs) =>
           match decide (e2 = ((x :: xs).length : Nat)) && decide (xs.length < 1000) with
           | true =>
             match s with
             | .nils => some (appGo X o st K .nils k elem (.lit ((x :: xs).length : Nat)) (.kn k elem (x :: xs) st.ne) (fun i e t => .apps i e ((x :: xs).map .lit) t))
             | .slice n1 (.lit e) ce =>
               match st.hp[n1]? with
               | some (.kn k3 ty ys i) =>
                 match decide ((ys.length : Int) = e) with
                 | true => some (appGo X o { st with hp := st.hp.set n1 (.row k3 ty i) } K (.slice n1 (.lit e) ce) k elem (.lit ((x :: xs).length : Nat)) (.kn k elem (ys ++ x :: xs) st.ne) (fun i e t => .apps i e ((x :: xs).map .lit) t))
                 | false => none
               | _ => none
             | _ => none
           | false => none
         | _, _ => none
       | _ => none
     | _, _ => none
   | _, _, _ => none
 | _, _, _ => none
def appS {U : Type} (X : Cx U) (o : Oper) (st : St) (K : St → Tree) : List SV → List TypeId → Tree
 | [s, .slice n2 (.lit 1) _], [t, t2] =>
   if t2 = t then
    match X.P.underlying t, st.hp[n2]? with
    | some (.slice elem), some (.cells [.int k x] _) =>
      match X.P.underlying elem, X.P.info? elem with
      | some (.int k'), some inf =>
        match inf.zero with
        | some (.int k'' 0) =>
          if decide (k' = k) && decide (k'' = k) && decide (inf.size = 1) && decide (inf.bytes ≤ 8) then
           match s with
           | .nils => .app none (.lit 0) x (K ({ st with hp := st.hp ++ [HE.row k elem st.ne], ne := st.ne + 2 }.put o.dst (.slice st.hp.length (.lit 1) (.var (st.ne + 1)))))
           | .slice n1 e ce =>
             match st.hp[n1]? with
             | some (.row k3 ty i) =>
               if decide (k3 = k) && decide (ty = elem) then
                needs (leE (.lit 0) e ++ (leE e ce ++ (leE ce (.len i) ++ (leE (.len i) ce ++ leE e (.lit 1000000))))) (.app (some i) e x (K ({ st with hp := st.hp.set n1 .gone ++ [HE.row k elem st.ne], ne := st.ne + 2 }.put o.dst (.slice st.hp.length (mkBin .add .i64 e (.lit 1)) (.var (st.ne + 1))))))
               else .fail "append row kind"
             | _ => .fail "append row"
           | _ => .fail "append where"
          else .fail "append kind"
        | _ => .fail "append zero"
      | _, _ => .fail "append elem"
    | _, _ => .fail "append what"
   else .fail "append types"
 | l, ts => appM X o st K l ts
def bitE (b : Bool) : Ex := .lit (match b with | true => 1 | false => 0)
def execE (X : Cx U) (inl : FuncId → List SV → St → (SV → St → Tree) → Tree) (o : Oper) (st : St) (K : St → Tree) : Tree :=
 let ρ := evalO st.tm
 let P := X.P
 match o.op with
 | .store t a v =>
   match ρ a with
   | .ptr n off =>
     match st.hp[n]?, ρ v with
     | some (.cells vs ty), v =>
       if decide (sizeT P t = some v.flat.length) && v.flat.all (cellOk st.hp) then
        match splice vs off v.flat with
        | some vs' => K ({ st with hp := st.hp.set n (.cells vs' ty) }.put o.dst .junk)
        | none => .fail "store out of block"
       else .fail "store value"
     | some (.row k ty i), .rowv k' j =>
       match off, sizeT P t with
       | 0, some (m' + 1) => if k = k' then .need (.cmp .eql (.len i) (.lit (m' + 1 : Nat))) (.need (.cmp .eql (.len j) (.lit (m' + 1 : Nat))) (K ({ st with hp := st.hp.set n (.row k ty j) }.put o.dst .junk))) else .fail "store row kind"
       | _, _ => .fail "store row"
     | some (.sp k ty len xs), .int k' (.lit x) =>
       match decide (k = k') && decide (off < len) && decide (sizeT P t = some 1) with
       | true => K ({ st with hp := st.hp.set n (.sp k ty len (spSet xs off x)) }.put o.dst .junk)
       | false => .fail "store sp"
     | _, _ => .fail "store where"
   | .ptrx n e 1 0 =>
     match st.hp[n]?, ρ v with
     | some (.row k ty i), .int k' x =>
       if k = k' ∧ sizeT P t = some 1 then
        needs (leE (.lit 0) e ++ ltE e (.len i)) (.ext (.setl i e x) (K ({ st with hp := st.hp.set n (.row k ty st.ne), ne := st.ne + 1 }.put o.dst .junk)))
       else .fail "store row kind"
     | some (.rb ty i), .bool (.lit b) =>
       if sizeT P t = some 1 then
        needs (leE (.lit 0) e ++ ltE e (.len i)) (.ext (.setl i e (bitE b)) (K ({ st with hp := st.hp.set n (.rb ty st.ne), ne := st.ne + 1 }.put o.dst .junk)))
       else .fail "store row kind"
     | _, _ => .fail "storex where"
   | _ => .fail "store address"
 | .alloc t =>
   match zeroRow P t with
   | some (k, len) =>
     match X.join with
     | true => K ({ st with hp := st.hp ++ [HE.sp k t len []] }.put o.dst (.ptr st.hp.length 0))
     | false => .ext (.repl (.lit len) (.lit 0)) (K ({ st with hp := st.hp ++ [HE.row k t st.ne], ne := st.ne + 1 }.put o.dst (.ptr st.hp.length 0)))
   | none =>
     match zeroT P t with
     | some zs => K ({ st with hp := st.hp ++ [HE.cells zs t] }.put o.dst (.ptr st.hp.length 0))
     | none => .fail "alloc zero"
 | .box t x =>
   if (ρ x).flat.all (cellOk st.hp) then K ({ st with hp := st.hp ++ [HE.cells (ρ x).flat t] }.put o.dst (.ptr st.hp.length 0)) else .fail "box junk"
 | .buildSlice t len parts =>
   match P.underlying t with
   | some (.slice elem) =>
     match sizeT P elem, zeroT P elem with
     | some s, some z =>
       if len * s ≤ 64 ∧ 0 < s ∧ z.length = s then
        match fillS st.hp (fun i => some (i * s, s)) ((List.replicate len z).flatten) (parts.toList.map fun (i, x) => (i, ρ x)) with
        | some l => K ({ st with hp := st.hp ++ [HE.cells l elem] }.put o.dst (.slice st.hp.length (.lit len) (.lit len)))
        | none => .fail "buildSlice parts"
       else .fail "buildSlice size"
     | _, _ => .fail "buildSlice zero"
   | _ => .fail "buildSlice type"
 | .makeSlice t l c =>
   match P.underlying t, ρ l, ρ c with
   | some (.slice elem), .int _ (.lit n), .int _ (.lit m) =>
     match sizeT P elem, zeroT P elem, P.info? elem with
     | some s, some z, some i =>
       if n = m ∧ 0 ≤ n ∧ n ≤ 64 ∧ 0 < s ∧ z.length = s ∧ i.bytes ≤ 4096 then
        K ({ st with hp := st.hp ++ [HE.cells ((List.replicate n.toNat z).flatten) elem] }.put o.dst (.slice st.hp.length (.lit n) (.lit n)))
       else .fail "makeSlice size"
     | _, _, _ => .fail "makeSlice zero"
   | some (.slice elem), .int _ e, .int _ e' =>
     match P.underlying elem, P.info? elem with
     | some (.int k), some i =>
       match i.zero with
       | some (.int k' 0) =>
         if e.beq e' && decide (k = k') && decide (i.size = 1) && decide (i.bytes ≤ 8) then
          needs (leE (.lit 0) e ++ leE e (.lit 1000000)) (.ext (.repl e (.lit 0)) (K ({ st with hp := st.hp ++ [HE.row k elem st.ne], ne := st.ne + 1 }.put o.dst (.slice st.hp.length e e))))
         else .fail "makeSlice row"
       | _ => .fail "makeSlice zero"
     | _, some i =>
       match i.zero with
       | some (.bool false) =>
         if e.beq e' && decide (i.size = 1) && decide (i.bytes ≤ 8) then
          needs (leE (.lit 0) e ++ leE e (.lit 1000000)) (.ext (.repl e (.lit 0)) (K ({ st with hp := st.hp ++ [HE.rb elem st.ne], ne := st.ne + 1 }.put o.dst (.slice st.hp.length e e))))
         else .fail "makeSlice row"
       | _ => .fail "makeSlice zero"
     | _, _ => .fail "makeSlice elem"
   | _, _, _ => .fail "makeSlice type"
 | .makeMap t r =>
   match P.underlying t, r with
   | some (.map _ _), none => .ext (.lst []) (K ({ st with hp := st.hp ++ [HE.mp st.ne], ne := st.ne + 1 }.put o.dst (.mapv st.hp.length)))
   | _, _ => .fail "makeMap"
 | .mapUpdate t m x v =>
   match P.underlying t, ρ m, ρ x with
   | some (.map kt _), .mapv n, .int .i64 e =>
     match P.underlying kt, st.hp[n]?, ρ v with
     | some (.int .i64), some (.mp i), .agg [] => .need (.not (.mem i e)) (.ext (.push i e) (K ({ st with hp := st.hp.set n (.mp st.ne), ne := st.ne + 1 }.put o.dst .junk)))
     | _, _, _ => .fail "mapUpdate what"
   | _, _, _ => .fail "mapUpdate"
 | .call c =>
   match c.callee with
   | .value f =>
     match ρ f with
     | .func (.func g) first captured => inl g (first ++ c.args.toList.map ρ ++ captured) st fun v st' => retK X g v fun v => K (st'.put o.dst v)
     | .nilf => .need (.lit false) .ok
     | _ => .fail "call of what"
   | .builtin .append =>
     match c.args.toList.map ρ, c.argTypes.toList with
     | [.slice n1 (.lit 0) (.lit 0), .slice n2 e _], [t, t2] =>
       if t2 = t then
        match P.underlying t, st.hp[n1]?, st.hp[n2]? with
        | some (.slice elem), some (.cells _ _), some (.row k _ i) =>
          match P.underlying elem, P.info? elem with
          | some (.int k'), some inf =>
            match inf.zero with
            | some (.int k'' 0) =>
              if decide (k' = k) && decide (k'' = k) && decide (inf.size = 1) && decide (inf.bytes ≤ 8) then
               needs (leE (.lit 0) e ++ leE e (.len i) ++ leE e (.lit 1000000)) (.br (.cmp .eql e (.lit 0)) (K (st.put o.dst (.slice n1 (.lit 0) (.lit 0))))
                (.grow i e (K ({ st with hp := st.hp ++ [HE.row k elem st.ne], ne := st.ne + 2 }.put o.dst (.slice st.hp.length e (.var (st.ne + 1)))))))
              else .fail "append kind"
            | _ => .fail "append zero"
          | _, _ => .fail "append elem"
        | _, _, _ => .fail "append blocks"
       else .fail "append types"
     | l, ts => match elemInt P ts with | true => appPre X l st fun st => (match appK X o st K l ts with | some t => t | none => appS X o st K l ts) | false => appC X o st K l ts
   | .invoke r name =>
     match ρ r with
     | .iface t [v] =>
       match methodS P t name with
       | some g => inl g (v :: c.args.toList.map ρ) st fun v st' => K (st'.put o.dst v)
       | none => .fail "no method"
     | _ => .fail "invoke of what"
   | _ => .fail "call builtin"
 | _ => .fail "operation"
def target (o : Oper) (st : St) : Nat :=
 match o.op with
 | .store _ a _ => match evalO st.tm a with | .ptr n _ => n | .ptrx n .. => n | _ => 1000000
 | .mapUpdate _ a _ _ => match evalO st.tm a with | .mapv n => n | _ => 1000000
 | _ => st.hp.length
def stepO (X : Cx U) (inl : FuncId → List SV → St → (SV → St → Tree) → Tree) (o : Oper) (st : St) (K : St → Tree) : Tree :=
 match evalP X.P st.hp st.tm o with
 | some (ns, v) => needs ns (v.force fun v => K (st.put o.dst v))
 | none => execE X inl o st fun st' => st'.forceAt (target o st) K
def splitOf (ops : Array Oper) (tm : Tm) (o : Oper) : Option (Tmp × Bx) :=
 match o.guard with
 | some (j, _) =>
   match (ops[j]?).bind (·.dst) with
   | some d =>
     match tm.getD d .junk with
     | .bool (.lit _) =>
       match o.op with
       | .pick (.tmp c) _ _ => match tm.getD c .junk with | .bool (.lit _) => none | .bool b => some (c, b) | _ => none
       | _ => none
     | .bool b => some (d, b)
     | _ => none
   | none => none
 | none =>
   match o.op with
   | .pick (.tmp c) _ _ => match tm.getD c .junk with | .bool (.lit _) => none | .bool b => some (c, b) | _ => none
   | _ => none
def idxOf (sp : List (FuncId × Nat)) (P : Program) (hp : List HE) (tm : Tm) (o : Oper) : Option (Tmp × IntKind × Ex × Nat) :=
 match o.op with
 | .indexAddr t x (.tmp c) =>
   match tm.getD c .junk with
   | .int _ (.lit _) => none
   | .int k e =>
     match P.underlying t, evalO tm x with
     | some (.slice _), .slice n (.lit len) _ => match hp[n]? with | some (.cells ..) => some (c, k, e, len.toNat) | _ => none
     | some (.array len _), .ptr n _ => match hp[n]? with | some (.cells ..) => some (c, k, e, len) | _ => none
     | _, _ => none
   | _ => none
 | .index t x (.tmp c) =>
   match tm.getD c .junk with
   | .int _ (.lit _) => none
   | .int k e =>
     match P.underlying t, evalO tm x with
     | some (.array len _), .agg _ => some (c, k, e, len)
     | _, _ => none
   | _ => none
 | .assign (.tmp c) =>
   match tm.getD c .junk with
   | .int k (.bin .rem kk x (.lit (.ofNat m))) => match assoc (1000000 + m) sp with | some len => some (c, k, .bin .rem kk x (.lit (.ofNat m)), len) | none => none
   | _ => none
 | _ => none
def wantS (ops : Array Oper) (tm : Tm) (o : Oper) : Option Bool :=
 match o.guard with
 | none => some true
 | some (j, want) =>
   match (ops[j]?).bind (·.dst) with
   | some d =>
     match tm.getD d .junk with
     | .bool (.lit b) => some (b == want)
     | .tuple _ => match Nat.blt d tm.len with | true => some false | false => none
     | _ => none
   | none => none
def setB (st : St) (d : Tmp) (b : Bool) : St := { st with tm := st.tm.set d (.bool (.lit b)) }
def isCompl : Bx → Bx → Bool
 | .cmp .lss e f, .cmp .geq e' f' | .cmp .geq e f, .cmp .lss e' f' | .cmp .leq e f, .cmp .gtr e' f' | .cmp .gtr e f, .cmp .leq e' f' | .cmp .eql e f, .cmp .neq e' f' | .cmp .neq e f, .cmp .eql e' f' => e.beq e' && f.beq f'
 | _, _ => false
def known : List (Bx × Bool) → Bx → Option Bool
 | [], _ => none
 | (c, v) :: l, b =>
   match c.beq' b with
   | true => some v
   | false =>
     match c, v, b with
     | .cmp .eql e (.lit i), true, .cmp .eql e' (.lit j) => match e.beq e' with | true => some (i == j) | false => known l b
     | _, _, _ => match isCompl c b with | true => some (!v) | false => known l b
def brL (st : St) (b : Bx) (K1 K2 : St → Tree) : Tree :=
 match known st.pc b with
 | some true => K1 st
 | some false => K2 st
 | none => .br b (K1 { st with pc := (b, true) :: st.pc.take 40 }) (K2 { st with pc := (b, false) :: st.pc.take 40 })
def brK (st : St) (b : Bx) (K1 K2 : St → Tree) : Tree :=
 match b with
 | .not c => brL st c K2 K1
 | b => brL st b K1 K2
def idxTree (c : Tmp) (k : IntKind) (e : Ex) (K : St → Tree) : Nat → Nat → St → Tree
 | _, 0, _ => .need (.lit false) .ok
 | j, m + 1, st => brK st (.cmp .eql e (.lit j)) (fun st => K { st with tm := st.tm.set c (.int k (.lit j)) }) (fun st => idxTree c k e K (j + 1) m st)
abbrev Rnd := Nat → List SV → St → (SV → St → Tree) → Tree
def yieldOf (tm : Tm) (o : Oper) : Option (Nat × List SV) :=
 match o.op with
 | .call c =>
   match c.callee with
   | .value f => match evalO tm f with | .yld n => some (n, c.args.toList.map (evalO tm)) | _ => none
   | _ => none
 | _ => none
def stepY (X : Cx U) (inl : FuncId → List SV → St → (SV → St → Tree) → Tree) (rnd : Rnd) (o : Oper) (st : St) (K : St → Tree) : Tree :=
 match yieldOf st.tm o with
 | some (n, args) => rnd n args st fun v st' => (st'.put o.dst v).force K
 | none => stepO X inl o st K
def runOps (X : Cx U) (inl : FuncId → List SV → St → (SV → St → Tree) → Tree) (rnd : Rnd) (ops : Array Oper) : List Oper → St → (St → Tree) → Tree
 | [], st, K => K st
 | o :: rest, st, K =>
   let go (st : St) : Tree :=
    match wantS ops st.tm o with
    | some true =>
      match splitOf ops st.tm o with
      | some (d, b) => brK st b (fun st => stepY X inl rnd o (setB st d true) fun st => runOps X inl rnd ops rest st K) (fun st => stepY X inl rnd o (setB st d false) fun st => runOps X inl rnd ops rest st K)
      | none =>
        match idxOf X.split X.P st.hp st.tm o with
        | some (c, k, e, len) => idxTree c k e (fun st => stepY X inl rnd o st fun st => runOps X inl rnd ops rest st K) 0 len st
        | none => stepY X inl rnd o st fun st => runOps X inl rnd ops rest st K
    | some false => runOps X inl rnd ops rest (st.put o.dst (.tuple [])) K
    | none => .fail "guard"
   match wantS ops st.tm o, splitOf ops st.tm o with
   | none, some (d, b) => brK st b (fun st => go (setB st d true)) (fun st => go (setB st d false))
   | _, _ => go st
def tyAt (hp : List HE) (n : Nat) : Nat := match hp[n]? with | some (.cells _ t) => t | some (.row _ t _) => t | _ => 0
def keptGo : Nat → List Nat → List HE → List HE → Option Nat
 | _, [], _, _ => none
 | i, k :: ks, a :: as, b :: bs =>
   match Nat.beq i k with
   | true => match a.beq b with | true => keptGo (i + 1) ks as bs | false => some k
   | false => keptGo (i + 1) (k :: ks) as bs
 | _, k :: _, _, _ => some k
def keptOk (hp0 hp : List HE) (kept : List Nat) : Option Nat := keptGo 0 kept hp0 hp
def memN (n : Nat) : List Nat → Bool
 | [] => false
 | m :: l => match Nat.beq n m with | true => true | false => memN n l
def onlyKept (kept : List Nat) (hp : List HE) : List HE := hp.zipIdx.map fun (h, n) => match h with | .abs i => .abs i | h => match memN n kept with | true => h | false => .gone
def stays : HE → Bool
 | .cells .. | .row .. | .ro .. | .sp .. | .mp _ | .kn .. | .rb .. => true
 | _ => false
def takeable (X : Cx U) (kept : List Nat) (ops : Array Oper) (listed : Array Bool) (st : St) (i : Nat) : Bool :=
 (Region.free .any ops (Array.replicate ops.size false) i || Region.free .any ops listed i) &&
 match ops[i]? with
 | some o =>
   match wantS ops st.tm o with
   | some true => (splitOf ops st.tm o).isSome || (idxOf X.split X.P (onlyKept kept st.hp) st.tm o).isSome || (evalP X.P (onlyKept kept st.hp) st.tm o).isSome
   | some false => true
   | none => (splitOf ops st.tm o).isSome
 | none => false
def readyB (ops : Array Oper) (listed : Array Bool) (i : Nat) : Bool :=
 !listed.getD i true && ((ops[i]?).map (·.after.all fun e => !Region.binds .any e || listed.getD e.on false)).getD false
def delN (i : Nat) : List Nat → List Nat
 | [] => []
 | j :: l => if j == i then l else j :: delN i l
def keptFrom (out : List Nat) : Nat → List HE → List Nat
 | _, [] => []
 | n, h :: hp =>
   match (match memN n out with | true => false | false => match h with | .cells _ t => !memN (1000000 + t) out | .row _ t _ => !memN (1000000 + t) out | h => stays h) with
   | true => fNat n fun n => n :: keptFrom out (n + 1) hp
   | false => keptFrom out (n + 1) hp
def keptOf (out : List Nat) (hp : List HE) : List Nat := keptFrom out 0 hp
def phaseOf : List (Nat × Nat × List Nat) → Nat → Nat → Option (List Nat)
 | [], _, _ => none
 | (f, r, l) :: hs, f', r' => match Nat.beq f f', Nat.beq r r' with | true, true => some l | _, _ => phaseOf hs f' r'
def Cx.phase {U : Type} (X : Cx U) (tag i : Nat) : Option (List Nat) := match X.hints with | [] => none | hs => phaseOf hs (tag / 1000) (tag % 1000 + 1000 * (i + 1))
def runDraw (X : Cx U) (inl : FuncId → List SV → St → (SV → St → Tree) → Tree) (ops : Array Oper) (tag : Nat) (kept : List Nat) (hp0 : List HE) : Nat → Nat → List Nat → Array Bool → St → (St → Tree) → Tree
 | 0, _, _, _, _, _ => .fail "draw fuel"
 | n + 1, m, pend, listed, st, K =>
   match pend.find? (fun i => readyB ops listed i && takeable X kept ops listed st i) with
   | some i =>
     match m with
     | 0 => .fail "draw more"
     | m' + 1 =>
       match ops[i]? with
       | some o =>
         match wantS ops st.tm o with
         | some false => fArr (listed.setIfInBounds i true) fun listed => runDraw X inl ops tag kept hp0 n m' (delN i pend) listed (st.put o.dst (.tuple [])) K
         | _ =>
           match splitOf ops st.tm o with
           | some (d, b) => brK st b (fun st => runDraw X inl ops tag kept hp0 n m pend listed (setB st d true) K) (fun st => runDraw X inl ops tag kept hp0 n m pend listed (setB st d false) K)
           | none =>
             match idxOf X.split X.P (onlyKept kept st.hp) st.tm o with
             | some (c, k, e, len) => idxTree c k e (fun st => runDraw X inl ops tag kept hp0 n m pend listed st K) 0 len st
             | none =>
               match evalP X.P (onlyKept kept st.hp) st.tm o with
               | some (ns, v) => needs ns (fArr (listed.setIfInBounds i true) fun listed => runDraw X inl ops tag kept hp0 n m' (delN i pend) listed (st.put o.dst v) K)
               | none => .fail "draw take"
       | none => .fail "draw index"
   | none =>
     let rs := Region.ready .any ops listed
     match rs with
     | [] => K st
     | _ =>
       match m with
       | 0 => .fail "draw more"
       | m' + 1 =>
         rs.foldr (fun i acc => .and
          (match ops[i]? with
           | some o =>
             match wantS ops st.tm o with
             | some true =>
               let go (st : St) : Tree := stepO X inl o st fun st' =>
                match keptOk hp0 st'.hp kept with
                | none =>
                  match X.phase tag i with
                  | none => fArr (listed.setIfInBounds i true) fun listed => runDraw X inl ops tag kept hp0 n m' (delN i pend) listed st' K
                  | some out =>
                    match kept.all (fun k => memN k (keptOf out st'.hp)) with
                    | true => fArr (listed.setIfInBounds i true) fun listed => runDraw X inl ops tag (keptOf out st'.hp) st'.hp n m' (delN i pend) listed st' K
                    | false => .fail "phase"
                | some x => .viol ((tag * 1000 + x) * 10000 + tyAt hp0 x)
               match idxOf X.split X.P st.hp st.tm o with
               | some (c, k, e, len) => idxTree c k e go 0 len st
               | none => go st
             | some false => fArr (listed.setIfInBounds i true) fun listed => runDraw X inl ops tag kept hp0 n m' (delN i pend) listed (st.put o.dst (.tuple [])) K
             | none => .fail "draw guard"
           | none => .fail "draw index") acc) .ok
def noDefer (ops : Array Oper) : Bool := ops.all fun o => match o.op with | .defer _ => false | _ => true
def firstRegion : Code → Nat
 | .region id _ _ => id
 | .seq a b => match a with | .skip | .label _ => firstRegion b | _ => firstRegion a
 | .block _ c => firstRegion c
 | .loop c => firstRegion c
 | .scope c => firstRegion c
 | .cond _ a _ => firstRegion a
 | _ => 0
def writes : Code → List Tmp
 | .region _ ops _ => ops.toList.filterMap (·.dst)
 | .seq a b => writes a ++ writes b
 | .cond _ a b => writes a ++ writes b
 | .block _ c => writes c
 | .loop c => writes c
 | .scope c => writes c
 | .rangeFunc _ ps a b => ps.toList ++ writes a ++ writes b
 | _ => []
def findLoop (f rid ne : Nat) : Nat → List (LoopS U) → Option (Nat × LoopS U)
 | _, [] => none
 | i, s :: ss => if s.fn = f ∧ s.rid = rid ∧ (s.at_ = 0 ∨ s.at_ = ne) then some (i, s) else findLoop f rid ne (i + 1) ss
def setAll (hp : List HE) : List (Nat × HE) → List HE
 | [] => hp
 | (n, h) :: l => setAll (if n < hp.length then hp.set n h else hp ++ [h]) l
def headOf (s : LoopS U) (ws : List Tmp) (st : St) : St :=
 { tm := s.tm.foldl (fun t (i, v) => t.set i v) (ws.foldl (fun t i => t.set i .junk) st.tm)
   stk := st.stk, hp := setAll st.hp s.hp, ne := st.ne + s.nv }
def chkTr (β : List Bnd) (σ : List Nat) : Tr → Tr → Bool
 | .leaf, _ => true
 | .node t l r, .node a l' r' =>
   (match t with
    | .junk => true
    | t => match t.subst β σ with | some t' => t'.beq a && t'.sure | none => false) && chkTr β σ l l' && chkTr β σ r r'
 | _, .leaf => false
def chkMk (σ : List Nat) : List Nat → List Nat → Bool
 | [], [] => true
 | n :: ns, m :: ms => σ[n]? == some m && chkMk σ ns ms
 | _, _ => false
def chkTm (β : List Bnd) (σ : List Nat) (t a : Tm) : Bool := t.len == a.len && chkTr β σ t.t a.t && chkMk σ t.mks a.mks && t.dfs.isEmpty && a.dfs.isEmpty
def chkStk (β : List Bnd) (σ : List Nat) : List Tm → List Tm → Bool
 | [], [] => true
 | t :: ts, a :: as => chkTm β σ t a && chkStk β σ ts as
 | _, _ => false
def unTr (m : MS) : Tr → Tr → Option MS
 | .leaf, _ => some m
 | .node t l r, .node a l' r' => (unS' m t a).bind fun m => (unTr m l l').bind fun m => unTr m r r'
 | _, .leaf => some m
def isVars : Nat → Nat → List Bnd → Bool
 | _, 0, _ => true
 | i, n + 1, .var j :: l => i == j && isVars (i + 1) n l
 | _, _, _ => false
def fit (reb : List Nat) (h0 ne0 nh0 : Nat) (hd st : St) : Option (List Bnd) :=
 let m0 : MS := ⟨(List.range hd.ne).map fun i => if i < ne0 then some (.var i) else none, (List.range hd.hp.length).map fun n => if n < nh0 && !reb.contains n then some n else none⟩
 match unTr m0 hd.tm.t st.tm.t with
 | none => none
 | some m =>
   match unHp st.hp 0 hd.hp m with
   | none => none
   | some m =>
     match allSome m.β, allSome m.σ with
     | some β, some σ =>
       if hd.pc.isEmpty && chkTm β σ hd.tm st.tm && chkStk β σ hd.stk st.stk && chkHp β σ st.hp 0 hd.hp && nodup σ && decide (β.length = hd.ne) && decide (σ.length = hd.hp.length) && isVars 0 ne0 β && σ.take h0 == List.range h0 then some (β.drop ne0) else none
     | _, _ => none
def leafOf : Tree → Option St
 | .leaf s => some s
 | .fast t => leafOf t
 | .need _ t => leafOf t
 | .call _ _ t => leafOf t
 | _ => none
def leafAny : Tree → Option St
 | .leaf s => some s
 | .fast t => leafAny t
 | .need _ t => leafAny t
 | .call _ _ t => leafAny t
 | .callm _ _ t => leafAny t
 | .ext _ t => leafAny t
 | .rng t => leafAny t
 | .grow _ _ t => leafAny t
 | .app _ _ _ t => leafAny t
 | .apps _ _ _ t => leafAny t
 | .appr _ _ _ _ t => leafAny t
 | .br _ t f => match leafAny t with | some s => some s | none => leafAny f
 | _ => none
def isEff (o : Oper) : Bool := match o.op with | .store .. => true | .alloc _ => true | .box .. => true | .buildSlice .. => true | .makeSlice .. => true | .makeMap .. => true | .mapUpdate .. => true | .call c => (match c.callee with | .builtin .len => false | _ => true) | _ => false
def effIdx : Nat → List Oper → List Nat
 | _, [] => []
 | k, o :: l => match isEff o with | true => k :: effIdx (k + 1) l | false => effIdx (k + 1) l
def onTo (dst : Nat) : Nat → List Oper → List Nat → Bool
 | _, [], _ => false
 | k, o :: l, ms =>
   match o.after.toList.any (fun e => match Region.binds .any e with | true => memN e.on ms | false => false) with
   | true => match Nat.beq k dst with | true => true | false => onTo dst (k + 1) l (k :: ms)
   | false => match Nat.beq k dst with | true => false | false => onTo dst (k + 1) l ms
def chainGo (ops : List Oper) : List Nat → Bool
 | a :: b :: l => match onTo b (a + 1) (ops.drop (a + 1)) [a] with | true => chainGo ops (b :: l) | false => false
 | _ => true
def chained (ops : Array Oper) : Bool := chainGo ops.toList (effIdx 0 ops.toList)
def notOut (out : List Nat) (l : List Nat) : List Nat := l.filter fun n => match memN n out with | true => false | false => true
def nameOf : SV → List Nat
 | .ptr n _ => [n]
 | .ptrx n .. => [n]
 | .hnd n => [n]
 | .mapv n => [n]
 | .slice n .. => [n]
 | .slicx n .. => [n]
 | _ => []
def readsOf (tm : Tm) (o : Oper) : List Nat :=
 match o.op with
 | .load _ a => nameOf (evalO tm a)
 | .nilCheck x => nameOf (evalO tm x)
 | .slice _ x _ _ _ => nameOf (evalO tm x)
 | .indexAddr _ x _ => nameOf (evalO tm x)
 | .lookup _ x _ _ => nameOf (evalO tm x)
 | .binOp _ _ x y _ => nameOf (evalO tm x) ++ nameOf (evalO tm y)
 | _ => []
def keptJ (names : List Nat) : Nat → List HE → List HE → List Nat
 | n, h :: hp, h' :: hp' =>
   match memN n names with
   | true => (match stays h with | true => (match h.beq h' with | true => n :: keptJ names (n + 1) hp hp' | false => keptJ names (n + 1) hp hp') | false => keptJ names (n + 1) hp hp')
   | false => keptJ names (n + 1) hp hp'
 | _, _, _ => []
def unHpG (hp : List HE) : Nat → List HE → MS → Option MS
 | _, [], m => some m
 | n, t :: ts, m =>
   match m.σ[n]? with
   | some (some a) => match hp[a]? with | some h => (unH m t h).bind fun m => unHpG hp (n + 1) ts m | none => none
   | _ => unHpG hp (n + 1) ts m
def uniJ (nh0 : Nat) (hd st : St) : Option MS :=
 let m0 : MS := ⟨(List.range hd.ne).map fun i => some (.var i), (List.range hd.hp.length).map fun n => if n < nh0 then some n else none⟩
 (unTr m0 hd.tm.t st.tm.t).bind fun m => (unHpG st.hp 0 hd.hp m).bind fun m => unHpG st.hp 0 hd.hp m
def goneOf : List (Option Nat) → List HE → List HE
 | some _ :: l, h :: hs => h :: goneOf l hs
 | none :: l, _ :: hs => .gone :: goneOf l hs
 | _, [] => []
 | [], hs => hs
def cleanJ (nh0 : Nat) (s : St) : St := match uniJ nh0 s s with | some m => { s with hp := goneOf m.σ s.hp } | none => s
def fitJ (nh0 : Nat) (hd st : St) : Bool :=
 match uniJ nh0 hd st with
 | none => false
 | some m =>
   let σ := m.σ.map (·.getD 0)
   let β := (List.range hd.ne).map Bnd.var
   decide (hd.ne = st.ne) && chkTm β σ hd.tm st.tm && chkHpG β σ st.hp 0 hd.hp && nodup (liveN σ hd.hp) && decide (σ.length = hd.hp.length) && (σ.take nh0 == List.range nh0)
inductive NilAt where
 | hnd (n j t : Nat)
 | row (n j : Nat) (k : IntKind) (ty : TypeId)
 | slot (i : Nat) (k : IntKind) (ty : TypeId)
 | conv (n : Nat)
def nilRow (reb : List (Nat × Nat)) (hd0 : List HE) (m : Nat) : Option (IntKind × TypeId) :=
 match assoc m reb, hd0[m]? with
 | some _, some (.row k ty _) => some (k, ty)
 | _, _ => none
def nilPos (reb : List (Nat × Nat)) (hd0 : List HE) (n : Nat) : Nat → List SV → List SV → List NilAt
 | j, .hnd m :: ts, .nilp :: as => match assoc m reb with | some t => .hnd n j t :: nilPos reb hd0 n (j + 1) ts as | none => nilPos reb hd0 n (j + 1) ts as
 | j, .slice m _ _ :: ts, .nils :: as => match nilRow reb hd0 m with | some (k, ty) => .row n j k ty :: nilPos reb hd0 n (j + 1) ts as | none => nilPos reb hd0 n (j + 1) ts as
 | j, .slice m _ _ :: ts, .slice n' _ _ :: as => match nilRow reb hd0 m with | some _ => .conv n' :: nilPos reb hd0 n (j + 1) ts as | none => nilPos reb hd0 n (j + 1) ts as
 | j, _ :: ts, _ :: as => nilPos reb hd0 n (j + 1) ts as
 | _, _, _ => []
def nilAll (reb : List (Nat × Nat)) (hd0 : List HE) : Nat → List HE → List HE → List NilAt
 | n, .cells ts _ :: hd, .cells as _ :: hp => nilPos reb hd0 n 0 ts as ++ nilAll reb hd0 (n + 1) hd hp
 | n, _ :: hd, _ :: hp => nilAll reb hd0 (n + 1) hd hp
 | _, _, _ => []
def nilSlots (reb : List (Nat × Nat)) (hd0 : List HE) (tm : Tm) : List (Nat × SV) → List NilAt
 | [] => []
 | (i, .slice m _ _) :: l => match tm.getD i .junk, nilRow reb hd0 m with | .nils, some (k, ty) => .slot i k ty :: nilSlots reb hd0 tm l | .slice n _ _, some _ => .conv n :: nilSlots reb hd0 tm l | _, _ => nilSlots reb hd0 tm l
 | _ :: l => nilSlots reb hd0 tm l
def nameArgs : List SV → List SV → List (Nat × Nat)
 | .ptr m _ :: ts, .ptr n _ :: as => (m, n) :: nameArgs ts as
 | .hnd m :: ts, .hnd n :: as => (m, n) :: nameArgs ts as
 | .hnd m :: ts, .ptr n _ :: as => (m, n) :: nameArgs ts as
 | .slice m _ _ :: ts, .slice n _ _ :: as => (m, n) :: nameArgs ts as
 | .slicx m _ _ _ :: ts, .slicx n _ _ _ :: as => (m, n) :: nameArgs ts as
 | .agg l :: ts, .agg l' :: as => nameArgs ts as
 | _ :: ts, _ :: as => nameArgs ts as
 | _, _ => []
def nilsOf (nils : List (Nat × Nat)) (hp0 hp : List HE) : Nat → List HE → List (Nat × Nat) → List NilAt
 | m, .cells ts _ :: l, σ =>
   match assoc m σ with
   | some n => match hp[n]? with | some (.cells as _) => nilPos nils hp0 n 0 ts as ++ nilsOf nils hp0 hp (m + 1) l (σ ++ nameArgs ts as) | _ => nilsOf nils hp0 hp (m + 1) l σ
   | none => nilsOf nils hp0 hp (m + 1) l σ
 | m, _ :: l, σ => nilsOf nils hp0 hp (m + 1) l σ
 | _, [], _ => []
def wantNils (hp : List HE) (f : FuncId) (args : List SV) : List (Ctr U) → List NilAt
 | [] => []
 | c :: cs => if c.fn = f then (match c.nils with | [] => wantNils hp f args cs | _ => nilsOf c.nils c.heap hp 0 c.heap (nameArgs c.args args)) else wantNils hp f args cs
def nilFix (X : Cx U) : List NilAt → St → (St → Tree) → Tree
 | [], st, K => K st
 | .hnd n j t :: l, st, K =>
   match X.objs[t]?, st.hp[n]? with
   | some T, some (.cells vs ty) =>
     match T.isNil, T.nv, vs[j]? with
     | true, 0, some .nilp => .ext (.mk t []) (nilFix X l { st with hp := st.hp.set n (.cells (vs.set j (.hnd st.hp.length)) ty) ++ [HE.abs st.ne], ne := st.ne + 1 } K)
     | _, _, _ => .fail "nilFix"
   | _, _ => .fail "nilFix"
 | .row n j k ty :: l, st, K =>
   match st.hp[n]? with
   | some (.cells vs cty) =>
     match vs[j]? with
     | some .nils => .ext (.lst []) (nilFix X l { st with hp := st.hp.set n (.cells (vs.set j (.slice st.hp.length (.lit 0) (.lit 0))) cty) ++ [HE.row k ty st.ne], ne := st.ne + 1 } K)
     | _ => .fail "nilFix row"
   | _ => .fail "nilFix row"
 | .slot i k ty :: l, st, K =>
   match st.tm.getD i .junk with
   | .nils => .ext (.lst []) (nilFix X l { st with tm := st.tm.set i (.slice st.hp.length (.lit 0) (.lit 0)), hp := st.hp ++ [HE.row k ty st.ne], ne := st.ne + 1 } K)
   | _ => .fail "nilFix slot"
 | .conv n :: l, st, K => toRows X.P [n] st fun st => nilFix X l st K
def retConv (post : List HE) : SV → SV → List NilAt
 | .slice j _ _, .slice n _ _ => match post[j]? with | some (.row ..) => [.conv n] | _ => []
 | .tuple (r :: rs), .tuple (v :: vs) => (match r, v with | .slice j _ _, .slice n _ _ => (match post[j]? with | some (.row ..) => [.conv n] | _ => []) | _, _ => [])
 | _, _ => []
def iterC (body : St → (SExit → St → Tree) → Tree) : Nat → St → (SExit → St → Tree) → Tree
 | 0, _, _ => .fail "loop rounds"
 | n + 1, st, K => body st fun ex st' => match ex with | .normal => iterC body n st' K | e => K e st'
def unMark (hp : List HE) : List Nat → Option (List HE)
 | [] => some hp
 | n :: ns => match hp[n]? with | some (.sys _ .dfr) => unMark (hp.set n .gone) ns | _ => none
def exitOf : RecSt → Option SExit
 | .ready => some .normal
 | .ret => some .ret
 | .exit i => some (.exit i)
 | _ => none
def stOf : SExit → RecSt
 | .normal => .ready
 | .ret => .ret
 | .exit i => .exit i
def isNorm : SExit → Bool
 | .normal => true
 | _ => false
def setTms (tm : Tm) : List Tmp → List SV → Tm
 | t :: ts, v :: vs => setTms (tm.set t v) ts vs
 | _, _ => tm
def roundS (tm0 : Tm) (i0 n : Nat) (ps : List Tmp) (asg body : St → (SExit → St → Tree) → Tree) (args : List SV) (st : St) (K : SV → St → Tree) : Tree :=
 match st.hp[n]? with
 | some (.sys i .ready) =>
   if i = i0 ∧ args.length = ps.length then
    asg { st with tm := { setTms tm0 ps args with mks := [], dfs := [] }, stk := st.tm :: st.stk } fun ex0 st0 =>
     match ex0, st0.hp[n]? with
     | .normal, some (.sys i1 .ready) =>
       if i1 = i0 then
        body { st0 with hp := st0.hp.set n (.sys i0 .busy) } fun ex st' =>
         match st'.stk, st'.hp[n]? with
         | tm1 :: stk1, some (.sys j .busy) => if j = i0 then K (.bool (.lit (isNorm ex))) { st' with tm := tm1, stk := stk1, hp := st'.hp.set n (.sys i0 (stOf ex)) } else .fail "round block"
         | _, _ => .fail "round end"
       else .fail "round begin"
     | _, _ => .fail "round assign"
   else .fail "round args"
 | _ => .fail "round state"
def noRnd : Rnd := fun _ _ _ _ => .fail "yield"
def lastDefer : List Oper → Option (List Oper × Oper × Call)
 | [] => none
 | [o] => match o.op, o.guard with | .defer c, none => some ([], o, c) | _, _ => none
 | o :: o' :: l => match lastDefer (o' :: l) with | some (r, d, c) => some (o :: r, d, c) | none => none
def deferS (o : Oper) (c : Call) (st : St) (K : St → Tree) : Tree :=
 match c.callee with
 | .value f =>
   match evalO st.tm f with
   | .func (.func g) first captured =>
     match SV.sureL first && SV.sureL (c.args.toList.map (evalO st.tm)) && SV.sureL captured with
     | true => K ({ st with tm := { st.tm with dfs := (g, first ++ c.args.toList.map (evalO st.tm) ++ captured) :: st.tm.dfs } }.put o.dst .junk)
     | false => .fail "defer what"
   | _ => .fail "defer of what"
 | _ => .fail "defer builtin"
def runDfs (run : FuncId → List SV → St → (SV → St → Tree) → Tree) : Nat → St → (St → Tree) → Tree
 | 0, st, K => match st.tm.dfs with | [] => K st | _ => .fail "defers"
 | n + 1, st, K => match st.tm.dfs with | [] => K st | (g, as) :: l => run g as { st with tm := { st.tm with dfs := l } } fun _ st' => runDfs run n st' K
def runCode (X : Cx U) (inlF : FuncId → List SV → St → (SV → St → Tree) → Tree) (inlR : Rnd → FuncId → List SV → St → (SV → St → Tree) → Tree) (rnd : Rnd) (f : FuncId) (h0 : Nat) (rd : Bool) : Code → St → (SExit → St → Tree) → Tree
 | .skip, st, K => K .normal st
 | .label _, st, K => K .normal st
 | .region _ ops false, st, K =>
   match rd, lastDefer ops.toList with
   | false, some (l, o, c) => runOps X (inlR rnd) rnd ops l st fun st => deferS o c st (K .normal)
   | _, _ => runOps X (inlR rnd) rnd ops ops.toList st (K .normal)
 | .region id ops true, st, K =>
   if Region.noSelect ops && noDefer ops then
    match X.fast with
    | true => .fast (runOps X (inlR rnd) rnd ops ops.toList st (K .normal))
    | false =>
      match X.join with
      | false => runDraw X (inlR rnd) ops (f * 1000 + id) (keptOf (X.out f id) st.hp) st.hp (8 * ops.size + 8) ops.size (List.range ops.size) (Array.replicate ops.size false) st (K .normal)
      | true =>
        let T1 := runOps X inlF noRnd ops ops.toList st fun s => s.force .leaf
        match leafAny T1 with
        | none => runDraw X (inlR rnd) ops (f * 1000 + id) (keptOf (X.out f id) st.hp) st.hp (8 * ops.size + 8) ops.size (List.range ops.size) (Array.replicate ops.size false) st (K .normal)
        | some s1 =>
          let kept := keptJ (notOut (X.out f id) (ops.toList.flatMap (readsOf s1.tm))) 0 st.hp s1.hp
          match (match chained ops with | true => none | false => match leafOf T1 with | none => none | some s1 => match Nat.beq s1.ne st.ne with | true => some s1 | false => none) with
          | none => runDraw X (inlR rnd) ops (f * 1000 + id) kept st.hp (8 * ops.size + 8) ops.size (List.range ops.size) (Array.replicate ops.size false) st (K .normal)
          | some s1 => (cleanJ st.hp.length s1).force fun hd =>
            .and (match decide (hd.ne = st.ne) with | true => K .normal { hd with stk := st.stk, pc := st.pc } | false => .fail "join ne")
             (runDraw X (inlR rnd) ops (f * 1000 + id) kept st.hp (8 * ops.size + 8) ops.size (List.range ops.size) (Array.replicate ops.size false) st fun s2 => match fitJ st.hp.length hd s2 with | true => .ok | false => .fail "join")
   else .fail "select"
 | .seq a b, st, K => runCode X inlF inlR rnd f h0 rd a st fun ex st' => match ex with | .normal => runCode X inlF inlR rnd f h0 rd b st' K | e => K e st'
 | .cond c a b, st, K =>
   match evalO st.tm c with
   | .bool (.lit true) => runCode X inlF inlR rnd f h0 rd a st K
   | .bool (.lit false) => runCode X inlF inlR rnd f h0 rd b st K
   | .bool x =>
     match c with
     | .tmp d => brK st x (fun st => runCode X inlF inlR rnd f h0 rd a (setB st d true) K) (fun st => runCode X inlF inlR rnd f h0 rd b (setB st d false) K)
     | _ => .fail "cond"
   | _ => .fail "cond no truth"
 | .block id c, st, K => runCode X inlF inlR rnd f h0 rd c st fun ex st' => match ex with | .exit i => if i = id then K .normal st' else K (.exit i) st' | e => K e st'
 | .loop c, st, K =>
   match findLoop f (firstRegion c) st.ne 0 X.loops with
   | none => iterC (runCode X inlF inlR rnd f h0 rd c) 70 st K
   | some (id, s) =>
     (headOf s (writes c) st).force fun hd =>
     let ne0 := st.ne
     let reb := s.reb.map (·.1)
     nilFix X (nilSlots s.reb hd.hp st.tm s.tm ++ nilAll s.reb hd.hp 0 hd.hp st.hp) st fun st1 =>
      if !(reb.all (h0 ≤ ·)) || decide (st.hp.length < h0) then .fail "loop names" else
      match fit reb h0 ne0 st.hp.length hd st1 with
      | some β => .loop id ne0 β (runCode X inlF inlR rnd f h0 rd c hd fun ex st' =>
         match ex with
         | .normal => nilFix X (nilSlots s.reb hd.hp st'.tm s.tm ++ nilAll s.reb hd.hp 0 hd.hp st'.hp) st' fun st2 => match fit reb h0 ne0 st.hp.length hd st2 with | some β' => .back id ne0 β' | none => .fail "loop back"
         | e => K e st')
      | none => iterC (runCode X inlF inlR rnd f h0 rd c) 2 st1 K
 | .exit id, st, K => K (.exit id) st
 | .ret, st, K => K .ret st
 | .scope c, st, K => runCode X inlF inlR rnd f h0 rd c st K
 | .rangeFunc g ps asg body, st, K =>
   if rd || !st.tm.dfs.isEmpty then .fail "range in a round" else
   match evalO st.tm g with
   | .func (.func it) first captured =>
     let m := st.hp.length
     let n := m + 1
     let tm0 := st.tm
     .rng (inlR (fun n' args st' K' => if n' = n then roundS tm0 st.ne n ps.toList (runCode X inlF inlR rnd f st'.hp.length true asg) (runCode X inlF inlR rnd f st'.hp.length true body) args st' K' else rnd n' args st' K')
      it (first ++ [.yld n] ++ captured) { st with tm := { st.tm with mks := m :: st.tm.mks }, hp := st.hp ++ [.sys st.ne .dfr, .sys st.ne .ready], ne := st.ne + 1 } fun _ st' =>
       match st'.hp[n]? with
       | some (.sys i j) => if i = st.ne then (match exitOf j with | some ex => K ex { st' with hp := st'.hp.set n .gone } | none => .fail "range state") else .fail "range block"
       | _ => .fail "range end")
   | _ => .fail "range over what"
 | _, _, _ => .fail "code"
def resS (P : Program) (hp : List HE) (tm : Tm) : List ResultVar → Option (List SV)
 | [] => some []
 | .tmp t :: l => if (tm.getD t .junk).sure then (resS P hp tm l).map (tm.getD t .junk :: ·) else none
 | .cell a t :: l =>
   match loadS P hp t (tm.getD a .junk) with
   | some ([], v) => if v.sure then (resS P hp tm l).map (v :: ·) else none
   | _ => none
def resV (l : List SV) : SV := match l with | [v] => v | l => .tuple l
mutual
def SV.under (n : Nat) : SV → Bool
 | .ptr m _ => Nat.blt m n
 | .ptrx m _ _ _ => Nat.blt m n
 | .hnd m => Nat.blt m n
 | .slice m _ _ => Nat.blt m n
 | .slicx m _ _ _ => Nat.blt m n
 | .yld m => Nat.blt m n
 | .mapv m => Nat.blt m n
 | .func _ a b => match SV.underL n a with | true => SV.underL n b | false => false
 | .agg l => SV.underL n l
 | .tuple l => SV.underL n l
 | .iface _ l => SV.underL n l
 | _ => true
def SV.underL (n : Nat) : List SV → Bool
 | [] => true
 | v :: l => match v.under n with | true => SV.underL n l | false => false
end
def belowHp (h0 : Nat) : Nat → List HE → Bool
 | 0, _ => true
 | _ + 1, [] => true
 | _ + 1, .kc .. :: _ => false
 | n + 1, .cells vs _ :: l => match SV.underL h0 vs with | true => belowHp h0 n l | false => false
 | n + 1, _ :: l => belowHp h0 n l
def dropOk (join : Bool) (h0 : Nat) (hp : List HE) (l : List SV) : Bool := match join with | true => (match SV.underL h0 l with | true => belowHp h0 h0 hp | false => false) | false => false
def runFn (X : Cx U) : Nat → Bool → Rnd → FuncId → List SV → St → (SV → St → Tree) → Tree
 | 0, _, _, _, _, _, _ => .fail "calls fuel"
 | n + 1, df, rnd, f, args, st, K =>
   match X.P.funcs[f]? with
   | some fn =>
     match fn.body with
     | some c =>
       if fn.name == "runtime.NumGoroutine" then .fail "call" else
       let inlR : Rnd → FuncId → List SV → St → (SV → St → Tree) → Tree := fun rnd g as st K => nilFix X (wantNils st.hp g as X.cts) st fun st => toRows X.P (wantRows X.cts g as) st fun st =>
        match tryCtrs g as st K 0 X.cts with
        | some t => t
        | none => runFn X n false rnd g as st K
       let inlF : FuncId → List SV → St → (SV → St → Tree) → Tree := fun g as st K => nilFix X (wantNils st.hp g as X.cts) st fun st => toRows X.P (wantRows X.cts g as) st fun st =>
        match tryCtrs g as st K 0 X.cts with
        | some t => t
        | none => runFn { X with fast := true } n false noRnd g as st K
       St.forceAt 1000000 { st with tm := Tm.ofList args fn.ntmps, stk := st.tm :: st.stk } fun st1 => runCode X inlF inlR rnd f st.hp.length false c st1 fun ex st' =>
        match ex, st'.stk with
        | .exit _, _ => .fail "exit"
        | _, _ =>
          match df with
          | true =>
            match st'.tm.mks, st'.tm.dfs, st'.stk with
            | [], [], tm0 :: stk0 =>
              match resS X.P st'.hp st'.tm fn.results.toList with
              | some l => K (resV l) { st' with tm := tm0, stk := stk0 }
              | none => .fail "results"
            | _, _, _ => .fail "deferred"
          | false => runDfs (fun g as st K => runFn X n true noRnd g as st K) 3 st' fun st' =>
            match st'.stk with
            | tm0 :: stk0 =>
              match unMark st'.hp st'.tm.mks with
              | some hp1 =>
                match resS X.P hp1 st'.tm fn.results.toList with
                | some l =>
                  match dropOk X.join st.hp.length hp1 l with
                  | true => K (resV l) { st' with tm := st.tm, stk := st.stk, hp := hp1.take st.hp.length }
                  | false => K (resV l) { st' with tm := tm0, stk := stk0, hp := hp1 }
                | none => .fail "results"
              | none => .fail "marks"
            | [] => .fail "stack"
     | none => .fail "call without a body"
   | none => .fail "call no function"
def openAll (X : Cx U) : List (Nat × List Nat) → St → (St → Tree) → Tree
 | [], st, K => K st
 | (n, ts) :: rest, st, K =>
   match st.hp[n]? with
   | some (.abs i) =>
     ts.foldr (fun t acc => .and
      (match X.objs[t]? with
       | some T =>
         if T.isNil then
          .opn i t (openAll X rest (let s := st.mapN (swapH n .nilp); { s with ne := s.ne + T.nv }) K)
         else
          let β := (List.range T.nv).map fun j => .var (st.ne + j)
          let σ := n :: (List.range (T.hp.length - 1)).map (st.hp.length + ·)
          match substNew β σ T.hp with
          | some (h :: hs) => .opn i t (openAll X rest (let s := st.mapN (swapH n (.ptr n 0)); { s with hp := s.hp.set n h ++ hs, ne := s.ne + T.nv }) K)
          | _ => .fail "open"
       | none => .fail "open form") acc) (.nomore i ts)
   | _ => .fail "open what"
def foldTry (X : Cx U) (n : Nat) (st : St) : List Nat → Option (Nat × List Bnd × St)
 | [] => none
 | t :: ts =>
   match X.objs[t]? with
   | some T =>
     if T.isNil then foldTry X n st ts else
     match unHp st.hp 0 T.hp ⟨List.replicate T.nv none, (List.replicate T.hp.length none).set 0 (some n)⟩ with
     | none => foldTry X n st ts
     | some m =>
       match allSome m.β, allSome m.σ with
       | some β, some σ =>
         if chkHp β σ st.hp 0 T.hp && nodup σ && decide (β.length = T.nv) && decide (σ.length = T.hp.length) && σ.head? == some n then
          some (t, β, (let s : St := { st with hp := (σ.foldl (fun hp a => hp.set a .gone) st.hp).set n (.abs st.ne), ne := st.ne + 1 }; s.mapN (swapP n)))
         else foldTry X n st ts
       | _, _ => foldTry X n st ts
   | none => none
def nilRet (X : Cx U) (post : List HE) (folds : List (Nat × List Nat)) (ret v : SV) (st : St) (K : SV → St → Tree) : Tree :=
 match ret, v with
 | .slice j _ _, .nils =>
   match post[j]? with
   | some (.row k ty _) => .ext (.lst []) (K (.slice st.hp.length (.lit 0) (.lit 0)) { st with hp := st.hp ++ [HE.row k ty st.ne], ne := st.ne + 1 })
   | _ => .fail "nilRet row"
 | .hnd j, .nilp =>
   match (assoc j folds).bind fun ts => ts.find? fun t => match X.objs[t]? with | some T => T.isNil && T.nv == 0 | none => false with
   | some t => .ext (.mk t []) (K (.hnd st.hp.length) { st with hp := st.hp ++ [HE.abs st.ne], ne := st.ne + 1 })
   | none => .fail "nilRet"
 | .tuple [.hnd j, _], .tuple [.nilp, b] =>
   match (assoc j folds).bind fun ts => ts.find? fun t => match X.objs[t]? with | some T => T.isNil && T.nv == 0 | none => false with
   | some t => .ext (.mk t []) (K (.tuple [.hnd st.hp.length, b]) { st with hp := st.hp ++ [HE.abs st.ne], ne := st.ne + 1 })
   | none => .fail "nilRet"
 | _, _ => K v st
def foldAll (X : Cx U) (σ : List (Option Nat)) : List (Nat × List Nat) → SV → St → (SV → St → Tree) → Tree
 | [], v, st, K => K v st
 | (j, ts) :: rest, v, st, K =>
   match σ[j]? with
   | some (some n) =>
     match st.hp[n]? with
     | some (.abs _) => foldAll X σ rest v st K
     | _ =>
       match foldTry X n st ts with
       | some (t, β, st') => .ext (.mk t β) (foldAll X σ rest (v.mapN (swapP n)) st' K)
       | none => .fail "fold"
   | _ => .fail "fold name"
def finish (X : Cx U) (c : Ctr U) (folds : List (Nat × List Nat)) (v : SV) (st : St) : Tree :=
 nilFix X ((match c.nils with | [] => [] | _ => nilsOf c.nils c.post st.hp 0 c.post (((List.range c.heap.length).map fun n => (n, n)) ++ nameArgs [c.ret] [v])) ++ retConv c.post c.ret v) st fun st =>
 nilRet X c.post folds c.ret v st fun v st =>
  let m0 : MS := ⟨(List.range (c.nin + c.nout)).map fun i => if i < c.nin then some (.var i) else none, (List.range c.post.length).map fun n => if n < c.heap.length then some n else none⟩
  match unS' m0 c.ret v with
  | none => .fail "result form"
  | some m =>
    foldAll X m.σ folds v st fun v st =>
     match unS' m0 c.ret v with
     | none => .fail "result form 2"
     | some m =>
       match unHp st.hp 0 c.post m with
       | none => .fail "result blocks"
       | some m =>
         match allSome m.β, allSome m.σ with
         | some β, some σ =>
           if chkL β σ [c.ret] [v] && chkHpG β σ st.hp 0 c.post && nodup (liveN σ c.post) && decide (β.length = c.nin + c.nout) && decide (σ.length = c.post.length) && isVars 0 c.nin β && (σ.take c.heap.length == List.range c.heap.length) then .ret (β.drop c.nin)
           else .fail "result check"
         | _, _ => .fail "result unbound"
def runCtr (X : Cx U) (fuel : Nat) (c : Ctr U) (opens folds : List (Nat × List Nat)) : Tree :=
 openAll X opens { tm := Tm.ofList c.args c.args.length, stk := [], hp := c.heap, ne := c.nin } fun st =>
  runFn X fuel false noRnd c.fn st.tm.list { st with tm := Tm.ofList [] 0 } fun v st' => finish X c folds v st'
end
end Go.Proofs.Ytbmbiiiacajolaa
