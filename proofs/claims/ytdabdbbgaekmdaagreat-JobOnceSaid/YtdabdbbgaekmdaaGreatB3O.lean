/- Memories: what may be in one; what contracts of memories ask and answer. -/
import Derived.Test.YtdabdbbgaekmdaaGreatB1O
import Derived.Test.YtdabdbbgaekmdaaGreatB2O
import Derived.KernelRfl
namespace Go.Proofs.YtdabdbbgaekmdaaGreat
set_option linter.unusedVariables false
set_option linter.unusedSimpArgs false
set_option linter.unusedSectionVars false
open Go Go.RowKit
/-- a memory as it may be -/
def MemSt.fine (M : MemSt) : Prop := M.W.length ≤ 4096 ∧ ∀ x ∈ M.W, isW x
def MemSt.at0 (M : MemSt) (x : Int) : Int := if 0 ≤ x ∧ x < M.W.length then M.W[x.toNat]?.getD 0 else 0
theorem out_load (M : MemSt) (x : Int) : cLoad.out [.u (.mem M), .i x] = [.u (.mem (M.load x)), .i (M.load x).n] := rfl
theorem out_store (M : MemSt) (x y : Int) : cStore.out [.u (.mem M), .i x, .i y] = [.u (.mem (M.store x y))] := rfl
theorem out_cas (M : MemSt) (x y z : Int) : cCAS.out [.u (.mem M), .i x, .i y, .i z] = [.u (.mem (M.cas x y z)), .b (M.cas x y z).h] := rfl
theorem out_words (M : MemSt) : cWords.out [.u (.mem M)] = [.u (.mem M), .l M.W, .i M.W.length] := rfl
theorem out_new {n : Int} (h : 1 ≤ n) (h1 : n ≤ 4096) : cNew.out [.i n] = [.u (.mem (.new n)), .i 0] := by simp [cNew, h, h1]
theorem pre_pick {x n : Int} (h : 0 < n) (h1 : n < 2 ^ 62) : cPick.pre [.i x, .i n] := ⟨_, _, rfl, h, h1⟩
theorem out_pick (x n : Int) : cPick.out [.i x, .i n] = [.i (x.emod n)] := rfl
theorem len_acc (M : MemSt) (k x y : Int) (b : Bool) : (M.acc k x y b).W.length = M.W.length := by unfold MemSt.acc; split <;> simp
theorem len_store (M : MemSt) (x y : Int) : (M.store x y).W.length = M.W.length := len_acc _ _ _ _ _
theorem isW0 : isW 0 := ⟨by decide, by decide⟩
theorem fine_get {M : MemSt} (h : M.fine) (i : Nat) : isW (M.W[i]?.getD 0) := by
  cases e : M.W[i]? with
  | none => exact isW0
  | some x => exact h.2 x (List.mem_of_getElem? e)
theorem fine_word {M : MemSt} (h : M.fine) (x : Int) : isW (M.word x) := fine_get h _
theorem fine_at0 {M : MemSt} (h : M.fine) (x : Int) : isW (M.at0 x) := by
  unfold MemSt.at0; split
  · exact fine_get h _
  · exact isW0
theorem fine_acc {M : MemSt} (h : M.fine) {k a w : Int} {b : Bool} (hw : isW w) : (M.acc k a w b).fine := by
  refine ⟨by rw [len_acc]; exact h.1, fun x hx => ?_⟩
  unfold MemSt.acc at hx
  split at hx
  · rcases List.mem_or_eq_of_mem_set hx with hx | rfl
    · exact h.2 x hx
    · exact hw
  · exact h.2 x hx
theorem n_acc {M : MemSt} {k a w : Int} {b : Bool} (hw : isW w) : isW (M.acc k a w b).n := by
  unfold MemSt.acc; split
  · exact hw
  · exact isW0
theorem fine_load {M : MemSt} (h : M.fine) (x : Int) : (M.load x).fine := fine_acc h (fine_word h x)
theorem n_load {M : MemSt} (h : M.fine) (x : Int) : isW (M.load x).n := n_acc (fine_word h x)
theorem fine_store {M : MemSt} (h : M.fine) {x w : Int} (hw : isW w) : (M.store x w).fine := fine_acc h hw
theorem fine_cas {M : MemSt} (h : M.fine) {x y z : Int} (hw : isW z) : (M.cas x y z).fine := by
  unfold MemSt.cas; split
  · exact fine_acc h hw
  · exact fine_acc h (fine_word h x)
theorem fo_store (M : MemSt) (x y : Int) : cQStore.out [.u (.rmem M), .i x, .i y] = [.u (.rmem (M.store x y))] := rfl
theorem toNat_succ {i : Int} (h : 0 ≤ i) : (i + 1).toNat = i.toNat + 1 := by omega
theorem take_app {xs ys r : List Int} {i : Nat} {x : Int} (h : xs.take i = ys) (hi : i ≤ xs.length) : (xs.take i ++ x :: r).take (i + 1) = ys ++ [x] := by
  rw [h, List.take_append]
  have : ys.length = i := by rw [← h, List.length_take]; omega
  rw [List.take_of_length_le (by omega), this, Nat.add_sub_cancel_left]
  rfl
theorem split_at {xs ys : List Int} {i : Nat} (h : xs.take i = ys) : ∃ c, xs = ys ++ c := ⟨xs.drop i, by rw [← h, List.take_append_drop]⟩
theorem len_app {xs r : List Int} {x : Int} {i : Nat} (h : i ≤ xs.length) : (xs.take i ++ x :: r).length = i + 1 + r.length := by simp; omega
theorem at0_in {M : MemSt} {x : Int} (h : 0 ≤ x) (h' : x < M.W.length) : M.at0 x = M.W[x.toNat]?.getD 0 := if_pos ⟨h, h'⟩
theorem at0_out {M : MemSt} {x : Int} (h : x < 0 ∨ M.W.length ≤ x) : M.at0 x = 0 := if_neg (by omega)
theorem wrap_u64' {n : Int} (h : 0 ≤ n) (h' : n < 18446744073709551616) : IntKind.u64.wrap n = n := by simp [IntKind.wrap, IntKind.signed, IntKind.bits]; omega
section
variable {U : Type} [Nil U] {X : Cx U} {R : List (EV U) → List (EV U) → Prop}
theorem st_app {i : Option Nat} {e x : Ex} {k : Tree} {env : List (EV U)} {xs : List Int} {n y : Int} (hl : (match i with | none => [] | some i => gL env i) = xs) (hn : e.den env = n) (hx : x.den env = y) (hk : ∀ (r : List Int) (env' : List (EV U)), env ++ [.l (xs.take n.toNat ++ y :: r), .i ((n.toNat + 1 + r.length : Nat) : Int)] = env' → k.sat X R env') : (Tree.app i e x k).sat X R env := by
  subst hl hn hx
  exact fun r => hk r _ rfl
theorem st_rng {k : Tree} {env : List (EV U)} (hk : ∀ (L : Loop) (env' : List (EV U)), env ++ [.r L] = env' → k.sat X R env') : (Tree.rng k).sat X R env := fun L => hk L _ rfl
end
end Go.Proofs.YtdabdbbgaekmdaaGreat
namespace Go.Proofs.YtdabdbbgaekmdaaGreat
set_option linter.unusedVariables false
set_option linter.unusedSimpArgs false
set_option linter.unusedSectionVars false
open Go Go.RowKit
/-- numbers of these names -/
def va (l : List Nat) (r : List Bnd) : List Bnd := (l.map fun n => .ex (.var n)) ++ r
theorem va_map (e : List (EV U)) (l : List Nat) (r : List Bnd) : (va l r).map (Bnd.den e) = (l.map fun n => EV.i (gI e n)) ++ r.map (Bnd.den e) := by rw [va, List.map_append, List.map_map]; rfl
def topW (i w : Int) : Int := i + 1 + (w / 65536 + 1) % 281474976710656 * 65536
/-- the word of a state -/
def layW (s c g : Int) : Int := s + 256 * c + 4294967296 * g
namespace OpSt
def x (O : OpSt) (k : Nat) : Int := O.l[k]?.getD 0
def ended (i e : Int) : OpSt := ⟨0, [], 9, i, 0, 0, 0, 0, 0, 0, 0, e⟩
def pop (O : OpSt) (pl pw pj : Int) : OpSt := ⟨1, O.l, 0, 0, 0, pl, pw, pj, 0, 0, 0, 0⟩
def at1 (O : OpSt) (i : Int) : OpSt := ⟨O.k, O.l, 1, i, 0, 0, 0, 0, O.fr, O.to, O.co, 0⟩
def at2 (O : OpSt) (w : Int) : OpSt := ⟨O.k, O.l, 2, O.i, w, 0, 0, 0, O.fr, O.to, O.co, 0⟩
def push (O : OpSt) (pl pw : Int) : OpSt := ⟨2, O.l, 3, O.i, 0, pl, pw, 0, 0, 0, 0, 0⟩
def goes (O : OpSt) (w : Int) : Prop := O.k = 1 ∨ O.k = 2 ∧ (w % 256 = 5 ∨ w % 256 = 2) ∨ O.k = 3 ∧ w % 256 = O.fr ∧ (w % 256 = 4 → w / 256 % 256 = O.co)
instance (O : OpSt) (w : Int) : Decidable (O.goes w) := by unfold goes; infer_instance
def next (O : OpSt) : Int := if O.k = 1 then layW 2 0 ((O.w / 4294967296 + 1) % 4294967296) else if O.k = 2 then layW 1 0 (O.w / 4294967296) else layW O.to (if O.to = 4 then O.co else 0) (O.w / 4294967296)
def swapped (O : OpSt) : OpSt := if O.k = 1 then ended O.i 0 else if O.k = 2 then O.push 1 0 else ended O.i 0
def cell (O : OpSt) : Int := IntKind.i64.wrap (O.x 0 + O.i)
def step (O : OpSt) (M : MemSt) : OpSt × MemSt :=
  if O.line = 0 then
    if O.pl = 1 then (if idxW (O.x 4) (M.load (O.x 2)).n < 0 then ended 0 7 else O.pop 2 (M.load (O.x 2)).n 0, M.load (O.x 2))
    else if O.pl = 2 then (O.pop 3 O.pw (idxW (O.x 4) (M.load (IntKind.i64.wrap (O.x 3 + idxW (O.x 4) O.pw))).n), M.load (IntKind.i64.wrap (O.x 3 + idxW (O.x 4) O.pw)))
    else (if (M.cas (O.x 2) O.pw (topW O.pj O.pw)).h = true then O.at1 (idxW (O.x 4) O.pw) else O.pop 1 0 0, M.cas (O.x 2) O.pw (topW O.pj O.pw))
  else if O.line = 1 then (if O.goes (M.load O.cell).n then O.at2 (M.load O.cell).n else ended 0 11, M.load O.cell)
  else if O.line = 2 then (if (M.cas O.cell O.w O.next).h = true then O.swapped else O.at1 O.i, M.cas O.cell O.w O.next)
  else if O.line = 3 then
    if O.pl = 1 then (O.push 2 (M.load (O.x 2)).n, M.load (O.x 2))
    else if O.pl = 2 then (O.push 3 O.pw, M.store (IntKind.i64.wrap (O.x 3 + O.i)) (idxW (O.x 4) O.pw + 1))
    else (if (M.cas (O.x 2) O.pw (topW O.i O.pw)).h = true then ended O.i 0 else O.push 1 0, M.cas (O.x 2) O.pw (topW O.i O.pw))
  else (O, M)
def newTake (l : List Int) : OpSt := ⟨1, l, 0, 0, 0, 1, 0, 0, 0, 0, 0, 0⟩
def newGive (l : List Int) (s i : Int) : OpSt := if i < 0 ∨ s ≤ i then ended 0 3 else ⟨2, l, 1, i, 0, 0, 0, 0, 0, 0, 0, 0⟩
def newTurn (l : List Int) (s i fr to co : Int) : OpSt := if i < 0 ∨ s ≤ i then ended 0 3 else if mayB fr to = false then ended 0 2 else if co < 0 ∨ 64 ≤ co then ended 0 3 else ⟨3, l, 1, i, 0, 0, 0, 0, fr, to, co, 0⟩
def told (O : OpSt) : Int := if O.line = 9 then O.err else 14
def index (O : OpSt) : Int := if O.line = 9 ∧ O.err = 0 then O.i else 0
end OpSt
namespace KeySt
def put (K : KeySt) (M : MemSt) : KeySt × MemSt := if K.line = 1 then (⟨0, 0, 9, 0⟩, M.store K.at_ K.w) else (K, M)
def get (K : KeySt) (M : MemSt) : KeySt × MemSt := if K.line = 1 then (⟨0, (M.load K.at_).n, 9, 0⟩, M.load K.at_) else (K, M)
def new (ks s i w : Int) : KeySt := if i < 0 ∨ s ≤ i then ⟨0, 0, 9, 3⟩ else ⟨IntKind.i64.wrap (ks + i), w, 1, 0⟩
def told (K : KeySt) : Int := if K.line = 9 then K.err else 14
def word (K : KeySt) : Int := if K.line = 9 ∧ K.err = 0 then K.w else 0
end KeySt
def cGetTop : Ctr U :=
  { fn := 132, nin := 1, args := [.int .u64 (.var 0)], heap := []
    pre := fun ins => ∃ w, ins = [.i w] ∧ isW w, nout := 2
    out := fun ins => match ins with | [.i w] => [.i (w % 65536 - 1), .i (w / 65536)] | _ => []
    ret := .tuple [.agg [.int .i64 (.var 1), .int .i64 (.var 2)], .int .i64 (.lit 0)], post := [] }
def cPuT : Ctr U :=
  { fn := 142, nin := 2, args := [.agg [.int .i64 (.var 0), .int .i64 (.var 1)]], heap := []
    pre := fun ins => ∃ i t, ins = [.i i, .i t] ∧ -1 ≤ i ∧ i ≤ 65534 ∧ 0 ≤ t ∧ t < 281474976710656, nout := 2
    out := fun ins => match ins with | [.i i, .i t] => [.i (i + 1 + t * 65536), .i 0] | _ => []
    ret := .tuple [.int .u64 (.var 2), .int .i64 (.var 3)], post := [] }
def stk3 : SV := .agg [.int .i64 (.var 0), .int .i64 (.var 1), .int .i64 (.var 2)]
def cRead : Ctr U :=
  { fn := 96, nin := 4, args := [stk3, .int .u64 (.var 3)], heap := []
    pre := fun ins => ∃ a b n w, ins = [.i a, .i b, .i n, .i w] ∧ isW w, nout := 1
    out := fun ins => match ins with | [.i a, .i b, .i n, .i w] => [.i (idxW n w)] | _ => []
    ret := .int .i64 (.var 4), post := [] }
def cJRd : Ctr U :=
  { fn := 54, nin := 1, args := [.int .u64 (.var 0)], heap := [], pre := fun ins => ∃ w, ins = [.i w] ∧ isW w, nout := 3
    out := fun ins => match ins with | [.i w] => [.i (w % 256), .i (w / 256 % 256), .i (w / 4294967296)] | _ => []
    ret := .agg [.int .i64 (.var 1), .int .i64 (.var 2), .int .i64 (.var 3)], post := [] }
def cLay : Ctr U :=
  { fn := 88, nin := 3, args := [.agg [.int .i64 (.var 0), .int .i64 (.var 1), .int .i64 (.var 2)]], heap := [], pre := fun ins => ∃ s c g, ins = [.i s, .i c, .i g] ∧ 1 ≤ s ∧ s ≤ 5 ∧ 0 ≤ c ∧ c < 64 ∧ 0 ≤ g ∧ g ≤ 4294967295, nout := 1
    out := fun ins => match ins with | [.i s, .i c, .i g] => [.i (layW s c g)] | _ => []
    ret := .int .u64 (.var 3), post := [] }
def cJMay : Ctr U :=
  { fn := 89, nin := 2, args := [.int .i64 (.var 0), .int .i64 (.var 1)], heap := [], pre := fun ins => ∃ a b, ins = [.i a, .i b], nout := 1
    out := fun ins => match ins with | [.i a, .i b] => [.b (mayB a b)] | _ => []
    ret := .bool (.var 2), post := [] }
def cQMay : Ctr U :=
  { fn := 106, nin := 2, args := [.int .i64 (.var 0), .int .i64 (.var 1)], heap := [], pre := fun ins => ∃ a b, ins = [.i a, .i b], nout := 1
    out := fun ins => match ins with | [.i a, .i b] => [.b (mayB a b)] | _ => []
    ret := .bool (.var 2), post := [] }
def sOk (s : Int) : Prop := 1 ≤ s ∧ s ≤ 64
def cNTk : Ctr U :=
  { fn := 49, nin := 5, args := [.agg [.int .i64 (.var 0), .int .i64 (.var 1), .int .i64 (.var 2), .int .i64 (.var 3), .int .i64 (.var 4)]], heap := [], pre := fun ins => ∃ st ks t ls s : Int, ins = [.i st, .i ks, .i t, .i ls, .i s] ∧ sOk s, nout := 1
    out := fun ins => match ins with | [.i st, .i ks, .i t, .i ls, .i s] => [.u (.take (.newTake [st, ks, t, ls, s]))] | _ => []
    ret := .hnd 0, post := [.abs 5] }
def cNGv : Ctr U :=
  { fn := 33, nin := 6, args := [.agg [.int .i64 (.var 0), .int .i64 (.var 1), .int .i64 (.var 2), .int .i64 (.var 3), .int .i64 (.var 4)], .int .i64 (.var 5)], heap := [], pre := fun ins => ∃ st ks t ls s i : Int, ins = [.i st, .i ks, .i t, .i ls, .i s, .i i] ∧ sOk s, nout := 1
    out := fun ins => match ins with | [.i st, .i ks, .i t, .i ls, .i s, .i i] => [.u (.give (.newGive [st, ks, t, ls, s] s i))] | _ => []
    ret := .hnd 0, post := [.abs 6] }
def cNTu : Ctr U :=
  { fn := 45, nin := 9, args := [.agg [.int .i64 (.var 0), .int .i64 (.var 1), .int .i64 (.var 2), .int .i64 (.var 3), .int .i64 (.var 4)], .int .i64 (.var 5), .int .i64 (.var 6), .int .i64 (.var 7), .int .i64 (.var 8)], heap := [], pre := fun ins => ∃ st ks t ls s i fr to co : Int, ins = [.i st, .i ks, .i t, .i ls, .i s, .i i, .i fr, .i to, .i co] ∧ sOk s, nout := 1
    out := fun ins => match ins with | [.i st, .i ks, .i t, .i ls, .i s, .i i, .i fr, .i to, .i co] => [.u (.turn (.newTurn [st, ks, t, ls, s] s i fr to co))] | _ => []
    ret := .hnd 0, post := [.abs 9] }
def cTkStep : Ctr U :=
  { fn := 69, nin := 2, args := [.hnd 0, .hnd 1], heap := [.abs 0, .abs 1], pre := fun ins => ∃ (O : OpSt) (M : MemSt), ins = [.u (.take O), .u (.mem M)] ∧ M.fine, nout := 3
    out := fun ins => match ins with | [.u (.take O), .u (.mem M)] => [.u (.take (O.step M).1), .u (.mem (O.step M).2), .b ((O.step M).1.line == 9)] | _ => []
    ret := .bool (.var 4), post := [.abs 2, .abs 3] }
def cGvStep : Ctr U :=
  { fn := 35, nin := 2, args := [.hnd 0, .hnd 1], heap := [.abs 0, .abs 1], pre := fun ins => ∃ (O : OpSt) (M : MemSt), ins = [.u (.give O), .u (.mem M)] ∧ M.fine, nout := 3
    out := fun ins => match ins with | [.u (.give O), .u (.mem M)] => [.u (.give (O.step M).1), .u (.mem (O.step M).2), .b ((O.step M).1.line == 9)] | _ => []
    ret := .bool (.var 4), post := [.abs 2, .abs 3] }
def cTuStep : Ctr U :=
  { fn := 71, nin := 2, args := [.hnd 0, .hnd 1], heap := [.abs 0, .abs 1], pre := fun ins => ∃ (O : OpSt) (M : MemSt), ins = [.u (.turn O), .u (.mem M)] ∧ M.fine, nout := 3
    out := fun ins => match ins with | [.u (.turn O), .u (.mem M)] => [.u (.turn (O.step M).1), .u (.mem (O.step M).2), .b ((O.step M).1.line == 9)] | _ => []
    ret := .bool (.var 4), post := [.abs 2, .abs 3] }
def cTkIdx : Ctr U :=
  { fn := 73, nin := 1, args := [.hnd 0], heap := [.abs 0], pre := fun ins => ∃ (O : OpSt), ins = [.u (.take O)], nout := 3
    out := fun ins => match ins with | [.u (.take O)] => [.u (.take O), .i O.index, .i O.told] | _ => []
    ret := .tuple [.int .i64 (.var 2), .int .i64 (.var 3)], post := [.abs 1] }
def cGvErr : Ctr U :=
  { fn := 36, nin := 1, args := [.hnd 0], heap := [.abs 0], pre := fun ins => ∃ (O : OpSt), ins = [.u (.give O)], nout := 2
    out := fun ins => match ins with | [.u (.give O)] => [.u (.give O), .i O.told] | _ => []
    ret := .int .i64 (.var 2), post := [.abs 1] }
def cTuErr : Ctr U :=
  { fn := 46, nin := 1, args := [.hnd 0], heap := [.abs 0], pre := fun ins => ∃ (O : OpSt), ins = [.u (.turn O)], nout := 2
    out := fun ins => match ins with | [.u (.turn O)] => [.u (.turn O), .i O.told] | _ => []
    ret := .int .i64 (.var 2), post := [.abs 1] }
def cKoWd : Ctr U :=
  { fn := 42, nin := 1, args := [.hnd 0], heap := [.abs 0], pre := fun ins => ∃ (O : KeySt), ins = [.u (.keyOf O)], nout := 3
    out := fun ins => match ins with | [.u (.keyOf O)] => [.u (.keyOf O), .i O.word, .i O.told] | _ => []
    ret := .tuple [.int .u64 (.var 2), .int .i64 (.var 3)], post := [.abs 1] }
def cQOIdx : Ctr U :=
  { fn := 74, nin := 1, args := [.hnd 0], heap := [.abs 0], pre := fun ins => ∃ (O : OpSt), ins = [.u (.rop O)], nout := 3
    out := fun ins => match ins with | [.u (.rop O)] => [.u (.rop O), .i O.index, .i O.told] | _ => []
    ret := .tuple [.int .i64 (.var 2), .int .i64 (.var 3)], post := [.abs 1] }
def cQOErr : Ctr U :=
  { fn := 75, nin := 1, args := [.hnd 0], heap := [.abs 0], pre := fun ins => ∃ (O : OpSt), ins = [.u (.rop O)], nout := 2
    out := fun ins => match ins with | [.u (.rop O)] => [.u (.rop O), .i O.told] | _ => []
    ret := .int .i64 (.var 2), post := [.abs 1] }
def cQKErr : Ctr U :=
  { fn := 76, nin := 1, args := [.hnd 0], heap := [.abs 0], pre := fun ins => ∃ (ld : Bool) (O : KeySt), ins = [.u (.rkey ld O)], nout := 2
    out := fun ins => match ins with | [.u (.rkey ld O)] => [.u (.rkey ld O), .i O.told] | _ => []
    ret := .int .i64 (.var 2), post := [.abs 1] }
def cQKWd : Ctr U :=
  { fn := 77, nin := 1, args := [.hnd 0], heap := [.abs 0], pre := fun ins => ∃ (O : KeySt), ins = [.u (.rkey true O)], nout := 3
    out := fun ins => match ins with | [.u (.rkey true O)] => [.u (.rkey true O), .i O.word, .i O.told] | _ => []
    ret := .tuple [.int .u64 (.var 2), .int .i64 (.var 3)], post := [.abs 1] }
inductive CoSt where
  | no
  | take (O : OpSt)
  | give (O : OpSt)
  | turn (O : OpSt)
  | key (K : KeySt)
  | kof (K : KeySt)
def oA : CoSt → U | .take O => .take O | _ => .takeNil
def oB : CoSt → U | .give O => .give O | _ => .giveNil
def oC : CoSt → U | .turn O => .turn O | _ => .turnNil
def CoSt.step (o : CoSt) (M : MemSt) : CoSt × MemSt :=
  match o with
  | .no => (.no, M)
  | .take O => (.take (O.step M).1, (O.step M).2)
  | .give O => (.give (O.step M).1, (O.step M).2)
  | .turn O => (.turn (O.step M).1, (O.step M).2)
  | .key K => (.key (K.put M).1, (K.put M).2)
  | .kof K => (.kof (K.get M).1, (K.get M).2)
def ctsKR : List (Ctr U) := [cGetTop, cPuT]
def ctsDp : List (Ctr U) := [cLoad, cStore, cCAS, cGetTop, cPuT, cRead, cJRd, cLay]
def ctsDn : List (Ctr U) := [cJMay, cQMay]
def cxDi (P : Program) : Cx U := { cx P [] with join := true }
def cxDp (P : Program) : Cx U := { cx P ctsDp with join := true }
def cxDn (P : Program) : Cx U := { cx P ctsDn with join := true }
end Go.Proofs.YtdabdbbgaekmdaaGreat
namespace Go.Proofs.YtdabdbbgaekmdaaGreat
set_option linter.unusedVariables false
set_option linter.unusedSimpArgs false
set_option linter.unusedSectionVars false
open Go
set_option maxRecDepth 100000
def hsGetTop : List (Nat × Nat × List Nat) := [(132, 2, [0])]
def tGetTop : Tree := (.and (.and (.and (.ret [.ex (.bin .sub .i64 (.conv .i64 (.bin .and .u64 (.bin .shr .u64 (.var 0) (.lit 0)) (.lit 65535))) (.lit 1)), .ex (.conv .i64 (.bin .and .u64 (.bin .shr .u64 (.var 0) (.lit 16)) (.lit 281474976710655)))]) .ok) .ok) .ok)
theorem rGetTop : runCtr { (cx Tryz.prog []) with hints := hsGetTop } 20 cGetTop [] [] = tGetTop := by kernel_rfl
def hsPuT : List (Nat × Nat × List Nat) := []
def tPuT : Tree := (.br (.cmp .lss (.var 0) (.lit (-1)))
 (.ret [.ex (.lit 0), .ex (.lit 3)])
 (.br (.cmp .gtr (.var 0) (.lit 65534))
 (.ret [.ex (.lit 0), .ex (.lit 3)])
 (.br (.cmp .lss (.var 1) (.lit 0))
 (.ret [.ex (.lit 0), .ex (.lit 3)])
 (.br (.cmp .gtr (.var 1) (.lit 281474976710655))
 (.ret [.ex (.lit 0), .ex (.lit 3)])
 (.and (.and (.and (.and (.ret [.ex (.bin .or .u64 (.bin .or .u64 (.lit 0) (.bin .shl .u64 (.conv .u64 (.bin .add .i64 (.var 0) (.lit 1))) (.lit 0))) (.bin .shl .u64 (.conv .u64 (.var 1)) (.lit 16))), .ex (.lit 0)]) .ok) .ok) .ok) .ok)))))
theorem rPuT : runCtr { (cx Tryz.prog []) with hints := hsPuT } 20 cPuT [] [] = tPuT := by kernel_rfl
def hsRead : List (Nat × Nat × List Nat) := []
def tRead : Tree := (.call 0 [.ex (.var 3)] (.br (.cmp .geq (.var 4) (.var 2))
 (.ret [.ex (.lit (-1))])
 (.ret [.ex (.var 4)])))
theorem rRead : runCtr { (cx Tryz.prog ctsKR) with hints := hsRead } 20 cRead [] [] = tRead := by kernel_rfl
def hsJRd : List (Nat × Nat × List Nat) := []
def tJRd : Tree := (.ret [.ex (.conv .i64 (.bin .and .u64 (.var 0) (.lit 255))), .ex (.conv .i64 (.bin .and .u64 (.bin .shr .u64 (.var 0) (.lit 8)) (.lit 255))), .ex (.conv .i64 (.bin .shr .u64 (.var 0) (.lit 32)))])
theorem rJRd : runCtr { (cxDi Tryz.prog) with hints := hsJRd } 20 cJRd [] [] = tJRd := by kernel_rfl
def hsLay : List (Nat × Nat × List Nat) := []
def tLay : Tree := (.ret [.ex (.bin .or .u64 (.bin .or .u64 (.conv .u64 (.var 0)) (.bin .shl .u64 (.conv .u64 (.var 1)) (.lit 8))) (.bin .shl .u64 (.conv .u64 (.var 2)) (.lit 32)))])
theorem rLay : runCtr { (cxDi Tryz.prog) with hints := hsLay } 20 cLay [] [] = tLay := by kernel_rfl
def hsJMay : List (Nat × Nat × List Nat) := []
def tJMay : Tree := (.br (.cmp .lss (.var 0) (.lit 1))
 (.ret [.bx (.lit false)])
 (.br (.cmp .gtr (.var 0) (.lit 5))
 (.ret [.bx (.lit false)])
 (.br (.cmp .eql (.var 0) (.lit 0))
 (.br (.cmp .lss (.var 1) (.lit 1))
 (.ret [.bx (.lit false)])
 (.br (.cmp .gtr (.var 1) (.lit 5))
 (.ret [.bx (.lit false)])
 (.br (.cmp .eql (.var 1) (.lit 0))
 (.ret [.bx (.lit false)])
 (.br (.cmp .eql (.var 1) (.lit 1))
 (.ret [.bx (.lit false)])
 (.br (.cmp .eql (.var 1) (.lit 2))
 (.ret [.bx (.lit false)])
 (.br (.cmp .eql (.var 1) (.lit 3))
 (.ret [.bx (.lit false)])
 (.br (.cmp .eql (.var 1) (.lit 4))
 (.ret [.bx (.lit false)])
 (.br (.cmp .eql (.var 1) (.lit 5))
 (.ret [.bx (.lit false)])
 (.need (.lit false) .ok)))))))))
 (.br (.cmp .eql (.var 0) (.lit 1))
 (.br (.cmp .lss (.var 1) (.lit 1))
 (.ret [.bx (.lit false)])
 (.br (.cmp .gtr (.var 1) (.lit 5))
 (.ret [.bx (.lit false)])
 (.br (.cmp .eql (.var 1) (.lit 0))
 (.ret [.bx (.lit false)])
 (.br (.cmp .eql (.var 1) (.lit 1))
 (.ret [.bx (.lit false)])
 (.br (.cmp .eql (.var 1) (.lit 2))
 (.ret [.bx (.lit false)])
 (.br (.cmp .eql (.var 1) (.lit 3))
 (.ret [.bx (.lit false)])
 (.br (.cmp .eql (.var 1) (.lit 4))
 (.ret [.bx (.lit false)])
 (.br (.cmp .eql (.var 1) (.lit 5))
 (.ret [.bx (.lit false)])
 (.need (.lit false) .ok)))))))))
 (.br (.cmp .eql (.var 0) (.lit 2))
 (.br (.cmp .lss (.var 1) (.lit 1))
 (.ret [.bx (.lit false)])
 (.br (.cmp .gtr (.var 1) (.lit 5))
 (.ret [.bx (.lit false)])
 (.br (.cmp .eql (.var 1) (.lit 0))
 (.ret [.bx (.lit false)])
 (.br (.cmp .eql (.var 1) (.lit 1))
 (.ret [.bx (.lit false)])
 (.br (.cmp .eql (.var 1) (.lit 2))
 (.ret [.bx (.lit false)])
 (.br (.cmp .eql (.var 1) (.lit 3))
 (.ret [.bx (.lit true)])
 (.br (.cmp .eql (.var 1) (.lit 4))
 (.ret [.bx (.lit false)])
 (.br (.cmp .eql (.var 1) (.lit 5))
 (.ret [.bx (.lit false)])
 (.need (.lit false) .ok)))))))))
 (.br (.cmp .eql (.var 0) (.lit 3))
 (.br (.cmp .lss (.var 1) (.lit 1))
 (.ret [.bx (.lit false)])
 (.br (.cmp .gtr (.var 1) (.lit 5))
 (.ret [.bx (.lit false)])
 (.br (.cmp .eql (.var 1) (.lit 0))
 (.ret [.bx (.lit false)])
 (.br (.cmp .eql (.var 1) (.lit 1))
 (.ret [.bx (.lit false)])
 (.br (.cmp .eql (.var 1) (.lit 2))
 (.ret [.bx (.lit true)])
 (.br (.cmp .eql (.var 1) (.lit 3))
 (.ret [.bx (.lit false)])
 (.br (.cmp .eql (.var 1) (.lit 4))
 (.ret [.bx (.lit true)])
 (.br (.cmp .eql (.var 1) (.lit 5))
 (.ret [.bx (.lit false)])
 (.need (.lit false) .ok)))))))))
 (.br (.cmp .eql (.var 0) (.lit 4))
 (.br (.cmp .lss (.var 1) (.lit 1))
 (.ret [.bx (.lit false)])
 (.br (.cmp .gtr (.var 1) (.lit 5))
 (.ret [.bx (.lit false)])
 (.br (.cmp .eql (.var 1) (.lit 0))
 (.ret [.bx (.lit false)])
 (.br (.cmp .eql (.var 1) (.lit 1))
 (.ret [.bx (.lit false)])
 (.br (.cmp .eql (.var 1) (.lit 2))
 (.ret [.bx (.lit false)])
 (.br (.cmp .eql (.var 1) (.lit 3))
 (.ret [.bx (.lit true)])
 (.br (.cmp .eql (.var 1) (.lit 4))
 (.ret [.bx (.lit false)])
 (.br (.cmp .eql (.var 1) (.lit 5))
 (.ret [.bx (.lit true)])
 (.need (.lit false) .ok)))))))))
 (.br (.cmp .eql (.var 0) (.lit 5))
 (.br (.cmp .lss (.var 1) (.lit 1))
 (.ret [.bx (.lit false)])
 (.br (.cmp .gtr (.var 1) (.lit 5))
 (.ret [.bx (.lit false)])
 (.br (.cmp .eql (.var 1) (.lit 0))
 (.ret [.bx (.lit false)])
 (.br (.cmp .eql (.var 1) (.lit 1))
 (.ret [.bx (.lit false)])
 (.br (.cmp .eql (.var 1) (.lit 2))
 (.ret [.bx (.lit false)])
 (.br (.cmp .eql (.var 1) (.lit 3))
 (.ret [.bx (.lit false)])
 (.br (.cmp .eql (.var 1) (.lit 4))
 (.ret [.bx (.lit false)])
 (.br (.cmp .eql (.var 1) (.lit 5))
 (.ret [.bx (.lit false)])
 (.need (.lit false) .ok)))))))))
 (.need (.lit false) .ok)))))))))
theorem rJMay : runCtr { (cxDi Tryz.prog) with hints := hsJMay } 20 cJMay [] [] = tJMay := by kernel_rfl
def hsQMay : List (Nat × Nat × List Nat) := []
def tQMay : Tree := (.br (.cmp .eql (.var 0) (.lit 2))
 (.ret [.bx (.cmp .eql (.var 1) (.lit 3))])
 (.br (.cmp .eql (.var 0) (.lit 3))
 (.br (.cmp .eql (.var 1) (.lit 2))
 (.ret [.bx (.lit true)])
 (.ret [.bx (.cmp .eql (.var 1) (.lit 4))]))
 (.br (.cmp .eql (.var 0) (.lit 4))
 (.br (.cmp .eql (.var 1) (.lit 3))
 (.ret [.bx (.lit true)])
 (.ret [.bx (.cmp .eql (.var 1) (.lit 5))]))
 (.ret [.bx (.lit false)]))))
theorem rQMay : runCtr { (cxDi Tryz.prog) with hints := hsQMay } 20 cQMay [] [] = tQMay := by kernel_rfl
end Go.Proofs.YtdabdbbgaekmdaaGreat
namespace Go.Proofs.YtdabdbbgaekmdaaGreat
set_option linter.unusedVariables false
set_option linter.unusedSimpArgs false
set_option linter.unusedSectionVars false
open Go Go.RowKit
theorem shr_0 (w : Int) : binDen .shr .u64 w 0 = w := by
  show w.fdiv (2 ^ min (0 : Int).toNat 64) = w
  simp
theorem shr_16 (w : Int) : binDen .shr .u64 w 16 = w / 65536 := by
  show w.fdiv (2 ^ min (16 : Int).toNat 64) = w / 65536
  rw [show (2 : Int) ^ min (16 : Int).toNat 64 = 65536 by rfl, Int.fdiv_eq_ediv_of_nonneg _ (by decide)]
theorem and_16 {w : Int} (h : isW w) : binDen .and .u64 w 65535 = w % 65536 := and_mod 16 w (by decide) h.1 h.2
theorem and_48 {w : Int} (h : isW w) : binDen .and .u64 w 281474976710655 = w % 281474976710656 := and_mod 48 w (by decide) h.1 h.2
theorem shl_0m {w : Int} (h : isW w) : binDen .shl .u64 w 0 = w := by
  show IntKind.u64.wrap (w * 2 ^ min (0 : Int).toNat 64) = w
  rw [show (2 : Int) ^ min (0 : Int).toNat 64 = 1 by rfl, Int.mul_one, wrap_u64' h.1 h.2]
theorem shl_16m {w : Int} (h : 0 ≤ w) (h' : w < 281474976710656) : binDen .shl .u64 w 16 = w * 65536 := by
  show IntKind.u64.wrap (w * 2 ^ min (16 : Int).toNat 64) = w * 65536
  rw [show (2 : Int) ^ min (16 : Int).toNat 64 = 65536 by rfl, wrap_u64' (by omega) (by omega)]
theorem or_16m {a b : Int} (h0 : 0 ≤ a) (h1 : a < 65536) (h2 : 0 ≤ b) (h3 : b < 281474976710656) : bits .or .u64 a (b * 65536) = a + b * 65536 := by
  rw [show b * 65536 = 2 ^ 16 * b by omega]
  exact or_add 16 a b h0 h1 h2 (by omega) (by omega)
theorem vGetTop (P : Program) (hs : List (Nat × Nat × List Nat)) : ∀ ins, ins.length = cGetTop.nin → cGetTop.pre ins → tGetTop.sat { cx P [] with hints := hs } (ctrR cGetTop) ins := by
  rintro ins _ ⟨w, rfl, h⟩
  obtain ⟨h0, h1⟩ := h
  have e1 : IntKind.i64.wrap (w % 65536) = w % 65536 := wrap_small (by omega) (by omega)
  have e2 : IntKind.i64.wrap (w / 65536 % 281474976710656) = w / 65536 := by rw [wrap_small (by omega) (by omega)]; omega
  have e3 : IntKind.i64.wrap (w % 65536 - 1) = w % 65536 - 1 := wrap_small (by omega) (by omega)
  unfold tGetTop
  repeat' (first | with_reducible refine st_and ?_ ?_ | with_reducible exact st_ok)
  refine st_ret (a := ([.i (w % 65536 - 1), .i (w / 65536)] : List (EV U))) ?_ ?_
  · simp only [List.map_cons, List.map_nil, Bnd.den, Ex.den, gI, List.getElem?_cons_zero, shr_0, shr_16, and_16 ⟨h0, h1⟩, and_48 (w := w / 65536) ⟨by omega, by omega⟩, e1, e2]
    simp only [binDen, e3]
  · rfl
theorem vPuT (P : Program) (hs : List (Nat × Nat × List Nat)) : ∀ ins, ins.length = cPuT.nin → cPuT.pre ins → tPuT.sat { cx P [] with hints := hs } (ctrR cPuT) ins := by
  rintro ins _ ⟨i, t, rfl, h1, h2, h3, h4⟩
  have e1 : binDen .add .i64 i 1 = i + 1 := wrap_small (by omega) (by omega)
  have e2 : IntKind.u64.wrap (i + 1) = i + 1 := wrap_u64' (by omega) (by omega)
  have e3 : IntKind.u64.wrap t = t := wrap_u64' (by omega) (by omega)
  have e4 : binDen .or .u64 0 (i + 1) = i + 1 := or_zero' _ (by omega) (by omega)
  have e5 : binDen .or .u64 (i + 1) (t * 65536) = i + 1 + t * 65536 := or_16m (by omega) (by omega) h3 h4
  unfold tPuT
  repeat' (first
    | (first
      | (with_reducible refine st_need ?_ ?_
         focus (simp only [dn, reduceCtorEq, h1] <;> first | omega | assumption))
      | (with_reducible refine st_and ?_ ?_)
      | (with_reducible exact st_ok)
      | (with_reducible refine st_br (fun hc => ?_) (fun hc => ?_) <;> (simp only [dn, reduceCtorEq, h1] at hc) <;> (try (exfalso; first | contradiction | omega)))
      | (refine st_call (by rfl) (by simp only [dn, reduceCtorEq, h1] <;> rfl) ?_ (by rfl <;> rfl) (by simp only [dn] <;> rfl) ?_
         focus (first | rfl))
      | (with_reducible refine st_ret (by simp only [dn, reduceCtorEq, h1] <;> rfl) ?_
         (first | rfl | exact ⟨_, rfl⟩)))
    | (refine st_ret (a := ([.i (i + 1 + t * 65536), .i 0] : List (EV U))) ?_ ?_
       focus simp only [List.map_cons, List.map_nil, Bnd.den, Ex.den, gI, List.getElem?_cons_zero, List.getElem?_cons_succ, e1, e2, e3, shl_0m (w := i + 1) ⟨by omega, by omega⟩, shl_16m h3 h4, e4, e5]
       rfl))
theorem hGetTop : cGetTop.Holds objs Tryz.prog := runCtr_holds (X := { cx Tryz.prog [] with hints := hsGetTop }) objsOk mixed noCts (callable _ Tryz.func132 (by kernel_rfl) (by kernel_rfl)) (by rintro ins _ ⟨_, rfl, _⟩; rfl) (by rw [rGetTop]; exact vGetTop _ _)
theorem hPuT : cPuT.Holds objs Tryz.prog := runCtr_holds (X := { cx Tryz.prog [] with hints := hsPuT }) objsOk mixed noCts (callable _ Tryz.func142 (by kernel_rfl) (by kernel_rfl)) (by rintro ins _ ⟨_, _, rfl, _⟩; rfl) (by rw [rPuT]; exact vPuT _ _)
theorem hctsKR : ∀ (ci : Nat) (c : Ctr U), ctsKR[ci]? = some c → c.Holds objs Tryz.prog := by
  intro ci c h
  match ci, h with
  | 0, h => cases h; exact hGetTop
  | 1, h => cases h; exact hPuT
  | n + 2, h => cases h
theorem out_getTop (w : Int) : cGetTop.out [.i w] = [.i (w % 65536 - 1), .i (w / 65536)] := rfl
theorem out_puT (i t : Int) : cPuT.out [.i i, .i t] = [.i (i + 1 + t * 65536), .i 0] := rfl
theorem out_read (a b n w : Int) : cRead.out [.i a, .i b, .i n, .i w] = [.i (idxW n w)] := rfl
theorem vRead (P : Program) (hs : List (Nat × Nat × List Nat)) : ∀ ins, ins.length = cRead.nin → cRead.pre ins → tRead.sat { cx P ctsKR with hints := hs } (ctrR cRead) ins := by
  rintro ins _ ⟨a, b, n, w, rfl, h⟩
  unfold tRead
  by_cases hn : w % 65536 - 1 ≥ n
  · have e : idxW n w = -1 := if_pos hn
    repeat' (first
      | (first
        | (with_reducible refine st_need ?_ ?_
           focus (simp only [dn, reduceCtorEq, h] <;> first | omega | assumption))
        | (with_reducible refine st_and ?_ ?_)
        | (with_reducible exact st_ok)
        | (with_reducible refine st_br (fun hc => ?_) (fun hc => ?_) <;> (simp only [dn, reduceCtorEq, h] at hc) <;> (try (exfalso; first | contradiction | omega)))
        | (refine st_call (by rfl) (by simp only [dn, reduceCtorEq, h] <;> rfl) ?_ (by simp only [out_getTop] <;> rfl) (by simp only [dn] <;> rfl) ?_
           focus (first | exact ⟨_, rfl, h⟩))
        | (with_reducible refine st_ret (by simp only [dn, reduceCtorEq, h] <;> rfl) ?_
           (first | rfl | exact ⟨_, rfl⟩)))
      | (refine st_ret (by simp only [dn, reduceCtorEq, h] <;> rfl) ?_
         show _ = [EV.i (idxW n w)]
         rw [e]))
  · have e : idxW n w = w % 65536 - 1 := if_neg hn
    repeat' (first
      | (first
        | (with_reducible refine st_need ?_ ?_
           focus (simp only [dn, reduceCtorEq, h] <;> first | omega | assumption))
        | (with_reducible refine st_and ?_ ?_)
        | (with_reducible exact st_ok)
        | (with_reducible refine st_br (fun hc => ?_) (fun hc => ?_) <;> (simp only [dn, reduceCtorEq, h] at hc) <;> (try (exfalso; first | contradiction | omega)))
        | (refine st_call (by rfl) (by simp only [dn, reduceCtorEq, h] <;> rfl) ?_ (by simp only [out_getTop] <;> rfl) (by simp only [dn] <;> rfl) ?_
           focus (first | exact ⟨_, rfl, h⟩))
        | (with_reducible refine st_ret (by simp only [dn, reduceCtorEq, h] <;> rfl) ?_
           (first | rfl | exact ⟨_, rfl⟩)))
      | (refine st_ret (by simp only [dn, reduceCtorEq, h] <;> rfl) ?_
         show _ = [EV.i (idxW n w)]
         rw [e]))
theorem hRead : cRead.Holds objs Tryz.prog := runCtr_holds (X := { cx Tryz.prog ctsKR with hints := hsRead }) objsOk mixed hctsKR (callable _ Tryz.func96 (by kernel_rfl) (by kernel_rfl)) (by rintro ins _ ⟨_, _, _, _, rfl, _⟩; rfl) (by rw [rRead]; exact vRead _ _)
theorem ofInt_small (a : Nat) (ha : a < 18446744073709551616) : (BitVec.ofInt 64 (a : Int)).toNat = a := by
  rw [BitVec.ofInt_natCast, BitVec.toNat_ofNat]; exact Nat.mod_eq_of_lt (by omega)
theorem i64_and_nat (a b : Nat) (ha : a < 4611686018427387904) (hb : b < 18446744073709551616) : bits .and .i64 (a : Int) (b : Int) = ((a &&& b : Nat) : Int) := by
  have hx : a &&& b ≤ a := Nat.and_le_left
  show IntKind.i64.wrap ((BitVec.ofInt 64 (a : Int) &&& BitVec.ofInt 64 (b : Int)).toNat : Int) = _
  rw [BitVec.toNat_and, ofInt_small a (by omega), ofInt_small b hb]
  exact wrap_small (by omega) (by omega)
theorem and_mod_i (k : Nat) (a : Int) (hk : k < 64) (h0 : 0 ≤ a) (h1 : a < 4611686018427387904) : bits .and .i64 a (2 ^ k - 1) = a % 2 ^ k := by
  obtain ⟨x, rfl⟩ := Int.eq_ofNat_of_zero_le h0
  have hp : 0 < 2 ^ k := Nat.two_pow_pos k
  have hq : 2 ^ k ≤ 2 ^ 63 := Nat.pow_le_pow_right (by omega) (by omega)
  have e : (2 : Int) ^ k - 1 = ((2 ^ k - 1 : Nat) : Int) := by
    rw [Int.ofNat_sub hp]; simp
  rw [e, i64_and_nat x (2 ^ k - 1) (by omega) (by omega), Nat.and_two_pow_sub_one_eq_mod]
  simp
theorem and_i48 {x : Int} (h0 : 0 ≤ x) (h1 : x < 562949953421312) : binDen .and .i64 x 281474976710655 = x % 281474976710656 := and_mod_i 48 x (by decide) h0 (by omega)
theorem tag_next {w : Int} (h : isW w) : binDen .and .i64 (binDen .add .i64 (w / 65536) 1) 281474976710655 = (w / 65536 + 1) % 281474976710656 := by
  obtain ⟨h0, h1⟩ := h
  rw [show binDen .add .i64 (w / 65536) 1 = w / 65536 + 1 from wrap_small (by omega) (by omega), and_i48 (by omega) (by omega)]
theorem tag_next' {w : Int} (h : isW w) : bits .and .i64 (IntKind.i64.wrap (w / 65536 + 1)) 281474976710655 = (w / 65536 + 1) % 281474976710656 := tag_next h
theorem pre_puT {i w : Int} (h : -1 ≤ i) (h1 : i ≤ 65534) : cPuT.pre [.i i, .i ((w / 65536 + 1) % 281474976710656)] := ⟨_, _, rfl, h, h1, by omega, by omega⟩
theorem wrapX {n : Int} (h : 0 ≤ n) (h' : n < 18446744073709551616) : IntKind.u64.wrap n = n := by simp [IntKind.wrap, IntKind.signed, IntKind.bits]; omega
theorem shrX (w : Int) (n : Nat) (hn : n < 64) : binDen .shr .u64 w (n : Int) = w / 2 ^ n := by
  show w.fdiv (2 ^ min (n : Int).toNat 64) = w / 2 ^ n
  rw [Int.toNat_natCast, Nat.min_eq_left (by omega), Int.fdiv_eq_ediv_of_nonneg _ (Int.le_of_lt (Int.pow_pos (by omega)))]
theorem shlX {w : Int} (n : Nat) (hn : n < 64) (h : 0 ≤ w) (h' : w * 2 ^ n < 18446744073709551616) : binDen .shl .u64 w (n : Int) = w * 2 ^ n := by
  show IntKind.u64.wrap (w * 2 ^ min (n : Int).toNat 64) = w * 2 ^ n
  rw [Int.toNat_natCast, Nat.min_eq_left (by omega), wrapX (Int.mul_nonneg h (Int.le_of_lt (Int.pow_pos (by omega)))) h']
theorem jobBits {s c g : Int} (h : ¬ (s < 1 ∨ 5 < s ∨ c < 0 ∨ 64 ≤ c ∨ g < 0 ∨ 4294967295 < g)) :
    binDen .or .u64 (binDen .or .u64 (IntKind.u64.wrap s) (binDen .shl .u64 (IntKind.u64.wrap c) 8)) (binDen .shl .u64 (IntKind.u64.wrap g) 32) = s + 256 * c + 4294967296 * g := by
  rw [wrapX (n := s) (by omega) (by omega), wrapX (n := c) (by omega) (by omega), wrapX (n := g) (by omega) (by omega)]
  have e1 := shlX (w := c) 8 (by decide) (by omega) (by omega)
  have e2 := shlX (w := g) 32 (by decide) (by omega) (by omega)
  have e3 := or_add 8 s c (by omega) (by omega) (by omega) (by omega) (by omega)
  have e4 := or_add 32 (s + 256 * c) g (by omega) (by omega) (by omega) (by omega) (by omega)
  have f1 : binDen .shl .u64 c 8 = 2 ^ 8 * c := by rw [Int.mul_comm]; exact e1
  have f2 : binDen .shl .u64 g 32 = 2 ^ 32 * g := by rw [Int.mul_comm]; exact e2
  rw [f1, f2]
  show bits .or .u64 (bits .or .u64 s (2 ^ 8 * c)) (2 ^ 32 * g) = _
  rw [e3]
  exact e4
theorem readX {w : Int} (hw : isW w) : IntKind.i64.wrap (binDen .and .u64 w 255) = w % 256 ∧ IntKind.i64.wrap (binDen .and .u64 (binDen .shr .u64 w 8) 255) = w / 256 % 256 ∧ IntKind.i64.wrap (binDen .shr .u64 w 32) = w / 4294967296 ∧
    IntKind.i64.wrap (binDen .rem .u64 w 256) = w % 256 ∧ IntKind.i64.wrap (binDen .rem .u64 (binDen .quo .u64 w 256) 256) = w / 256 % 256 := by
  obtain ⟨h0, h1⟩ := hw
  have e1 : binDen .and .u64 w 255 = w % 256 := and_mod 8 w (by decide) h0 h1
  have e2 : binDen .shr .u64 w 8 = w / 256 := shrX w 8 (by decide)
  have e3 : binDen .and .u64 (w / 256) 255 = w / 256 % 256 := and_mod 8 (w / 256) (by decide) (by omega) (by omega)
  have e4 : binDen .shr .u64 w 32 = w / 4294967296 := shrX w 32 (by decide)
  have e5 : binDen .rem .u64 w 256 = w % 256 := Int.tmod_eq_emod_of_nonneg h0
  have e6 : binDen .quo .u64 w 256 = w / 256 := by
    show IntKind.u64.wrap (w.tdiv 256) = _
    rw [Int.tdiv_eq_ediv_of_nonneg h0, wrapX (by omega) (by omega)]
  have e7 : binDen .rem .u64 (w / 256) 256 = w / 256 % 256 := Int.tmod_eq_emod_of_nonneg (by omega)
  rw [e1, e2, e3, e4, e5, e6, e7]
  exact ⟨wrap_small (by omega) (by omega), wrap_small (by omega) (by omega), wrap_small (by omega) (by omega), wrap_small (by omega) (by omega), wrap_small (by omega) (by omega)⟩
theorem vJRd (P : Program) (hs : List (Nat × Nat × List Nat)) : ∀ ins, ins.length = cJRd.nin → cJRd.pre ins → tJRd.sat { cxDi P with hints := hs } (ctrR cJRd) ins := by
  rintro ins _ ⟨w, rfl, hw⟩
  obtain ⟨e1, e2, e3, e4, e5⟩ := readX hw
  show ([.i (IntKind.i64.wrap (binDen .and .u64 w 255)), .i (IntKind.i64.wrap (binDen .and .u64 (binDen .shr .u64 w 8) 255)), .i (IntKind.i64.wrap (binDen .shr .u64 w 32))] : List (EV U)) = [.i (w % 256), .i (w / 256 % 256), .i (w / 4294967296)]
  rw [e1, e2, e3]
theorem hJRd : cJRd.Holds objs Tryz.prog := runCtr_holds (X := { cxDi Tryz.prog with hints := hsJRd }) objsOk mixed noCts (callable _ Tryz.func54 (by kernel_rfl) (by kernel_rfl)) (by rintro ins _ ⟨_, rfl, _⟩; rfl) (by rw [rJRd]; exact vJRd _ _)
theorem vLay (P : Program) (hs : List (Nat × Nat × List Nat)) : ∀ ins, ins.length = cLay.nin → cLay.pre ins → tLay.sat { cxDi P with hints := hs } (ctrR cLay) ins := by
  rintro ins _ ⟨s, c, g, rfl, h1, h2, h3, h4, h5, h6⟩
  show ([.i (binDen .or .u64 (binDen .or .u64 (IntKind.u64.wrap s) (binDen .shl .u64 (IntKind.u64.wrap c) 8)) (binDen .shl .u64 (IntKind.u64.wrap g) 32))] : List (EV U)) = [.i (s + 256 * c + 4294967296 * g)]
  rw [jobBits (by omega)]
theorem hLay : cLay.Holds objs Tryz.prog := runCtr_holds (X := { cxDi Tryz.prog with hints := hsLay }) objsOk mixed noCts (callable _ Tryz.func88 (by kernel_rfl) (by kernel_rfl)) (by rintro ins _ ⟨_, _, _, rfl, _⟩; rfl) (by rw [rLay]; exact vLay _ _)
theorem may_t {a b : Int} (h : a = 2 ∧ b = 3 ∨ a = 3 ∧ (b = 2 ∨ b = 4) ∨ a = 4 ∧ (b = 3 ∨ b = 5)) : ([.b true] : List (EV U)) = [.b (mayB a b)] := by rw [mayB, decide_eq_true h]
theorem may_f {a b : Int} (h : ¬ (a = 2 ∧ b = 3 ∨ a = 3 ∧ (b = 2 ∨ b = 4) ∨ a = 4 ∧ (b = 3 ∨ b = 5))) : ([.b false] : List (EV U)) = [.b (mayB a b)] := by rw [mayB, decide_eq_false h]
theorem may_c {a b c : Int} (h : b = c ↔ (a = 2 ∧ b = 3 ∨ a = 3 ∧ (b = 2 ∨ b = 4) ∨ a = 4 ∧ (b = 3 ∨ b = 5))) : ([.b (cmpDen .eql b c)] : List (EV U)) = [.b (mayB a b)] := by
  have e : cmpDen .eql b c = mayB a b := by
    show (b == c) = decide _
    rw [Bool.eq_iff_iff, beq_iff_eq, decide_eq_true_iff]
    exact h
  rw [e]
theorem may_rng {a b : Int} (h : mayB a b = true) : (2 ≤ a ∧ a ≤ 4) ∧ 2 ≤ b ∧ b ≤ 5 := by
  have h1 := of_decide_eq_true h
  omega
set_option maxHeartbeats 4000000 in
theorem vJMay (P : Program) (hs : List (Nat × Nat × List Nat)) : ∀ ins, ins.length = cJMay.nin → cJMay.pre ins → tJMay.sat { cxDi P with hints := hs } (ctrR cJMay) ins := by
  rintro ins _ ⟨a, b, rfl⟩
  unfold tJMay
  repeat' (first
    | (with_reducible refine st_br (fun hc => ?_) (fun hc => ?_) <;> (simp only [dn, reduceCtorEq, va_map] at hc) <;> (try (exfalso; first | contradiction | omega)))
    | (refine st_ret (by simp only [dn, reduceCtorEq, va_map] <;> rfl) ?_
       first
         | exact may_f (by omega)
         | exact may_t (by omega)
         | exact may_c (by omega))
    | (with_reducible refine st_need ?_ ?_
       focus (simp only [dn, reduceCtorEq, va_map] <;> first | omega | assumption))
    | fail "no step")
theorem hJMay : cJMay.Holds objs Tryz.prog := runCtr_holds (X := { cxDi Tryz.prog with hints := hsJMay }) objsOk mixed noCts (callable _ Tryz.func89 (by kernel_rfl) (by kernel_rfl)) (by rintro ins _ ⟨_, _, rfl⟩; rfl) (by rw [rJMay]; exact vJMay _ _)
set_option maxHeartbeats 4000000 in
theorem vQMay (P : Program) (hs : List (Nat × Nat × List Nat)) : ∀ ins, ins.length = cQMay.nin → cQMay.pre ins → tQMay.sat { cxDi P with hints := hs } (ctrR cQMay) ins := by
  rintro ins _ ⟨a, b, rfl⟩
  unfold tQMay
  repeat' (first
    | (with_reducible refine st_br (fun hc => ?_) (fun hc => ?_) <;> (simp only [dn, reduceCtorEq, va_map] at hc) <;> (try (exfalso; first | contradiction | omega)))
    | (refine st_ret (by simp only [dn, reduceCtorEq, va_map] <;> rfl) ?_
       first
         | exact may_f (by omega)
         | exact may_t (by omega)
         | exact may_c (by omega))
    | (with_reducible refine st_need ?_ ?_
       focus (simp only [dn, reduceCtorEq, va_map] <;> first | omega | assumption))
    | fail "no step")
theorem hQMay : cQMay.Holds objs Tryz.prog := runCtr_holds (X := { cxDi Tryz.prog with hints := hsQMay }) objsOk mixed noCts (callable _ Tryz.func106 (by kernel_rfl) (by kernel_rfl)) (by rintro ins _ ⟨_, _, rfl⟩; rfl) (by rw [rQMay]; exact vQMay _ _)
end Go.Proofs.YtdabdbbgaekmdaaGreat
namespace Go.Proofs.YtdabdbbgaekmdaaGreat
set_option linter.unusedVariables false
set_option linter.unusedSimpArgs false
set_option linter.unusedSectionVars false
open Go
set_option maxRecDepth 100000
def hsNTk : List (Nat × Nat × List Nat) := []
def tNTk : Tree := (.and (.and (.ext (.mk 5 (va [0, 1, 2, 3, 4] [])) (.ret [.var 5])) .ok) .ok)
theorem rNTk : runCtr { (cxDn Tryz.prog) with hints := hsNTk } 20 cNTk [] [(0, [5])] = tNTk := by
  dsimp only [tNTk, va, List.map_cons, List.map_nil, List.cons_append, List.nil_append]
  kernel_rfl
def hsNGv : List (Nat × Nat × List Nat) := []
def tNGv : Tree := (.br (.cmp .lss (.var 5) (.lit 0))
 (.ext (.mk 22 (va [0, 1, 2, 3, 4, 5] ([.ex (.lit 3)]))) (.ret [.var 6]))
 (.br (.cmp .geq (.var 5) (.var 4))
 (.ext (.mk 22 (va [0, 1, 2, 3, 4, 5] ([.ex (.lit 3)]))) (.ret [.var 6]))
 (.ext (.mk 14 (va [0, 1, 2, 3, 4, 5] [])) (.ret [.var 6]))))
theorem rNGv : runCtr { (cxDn Tryz.prog) with hints := hsNGv } 20 cNGv [] [(0, [14,22])] = tNGv := by
  dsimp only [tNGv, va, List.map_cons, List.map_nil, List.cons_append, List.nil_append]
  kernel_rfl
def hsNTu : List (Nat × Nat × List Nat) := []
def tNTu : Tree := (.br (.cmp .lss (.var 5) (.lit 0))
 (.ext (.mk 27 (va [0, 1, 2, 3, 4, 5] (.ex (.lit 0) :: .ex (.lit 3) :: va [6, 7, 8] []))) (.ret [.var 9]))
 (.br (.cmp .geq (.var 5) (.var 4))
 (.ext (.mk 27 (va [0, 1, 2, 3, 4, 5] (.ex (.lit 0) :: .ex (.lit 3) :: va [6, 7, 8] []))) (.ret [.var 9]))
 (.call 0 [.ex (.var 6), .ex (.var 7)] (.br (.var 9)
 (.br (.cmp .lss (.var 8) (.lit 0))
 (.ext (.mk 27 (va [0, 1, 2, 3, 4, 5] (.ex (.lit 0) :: .ex (.lit 3) :: va [6, 7, 8] []))) (.ret [.var 10]))
 (.br (.cmp .geq (.var 8) (.lit 64))
 (.ext (.mk 27 (va [0, 1, 2, 3, 4, 5] (.ex (.lit 0) :: .ex (.lit 3) :: va [6, 7, 8] []))) (.ret [.var 10]))
 (.ext (.mk 24 (va [0, 1, 2, 3, 4, 5, 6, 7, 8] [])) (.ret [.var 10]))))
 (.ext (.mk 27 (va [0, 1, 2, 3, 4, 5] (.ex (.lit 0) :: .ex (.lit 2) :: va [6, 7, 8] []))) (.ret [.var 10]))))))
theorem rNTu : runCtr { (cxDn Tryz.prog) with hints := hsNTu } 20 cNTu [] [(0, [24,27])] = tNTu := by
  dsimp only [tNTu, va, List.map_cons, List.map_nil, List.cons_append, List.nil_append]
  kernel_rfl
def hsTkIdx : List (Nat × Nat × List Nat) := []
def tTkIdx : Tree := (.and (.opn 0 5 (.ext (.mk 5 (va [1, 2, 3, 4, 5] [])) (.ret [.var 6, .ex (.lit 0), .ex (.lit 14)])))
 (.and (.opn 0 6 (.ext (.mk 6 (va [1, 2, 3, 4, 5, 6, 7, 8] [])) (.ret [.var 9, .ex (.lit 0), .ex (.lit 14)])))
 (.and (.opn 0 7 (.ext (.mk 7 (va [1, 2, 3, 4, 5, 6, 7, 8] [])) (.ret [.var 9, .ex (.lit 0), .ex (.lit 14)])))
 (.and (.opn 0 8 (.ext (.mk 8 (va [1, 2, 3, 4, 5, 6, 7, 8] [])) (.ret [.var 9, .ex (.lit 0), .ex (.lit 14)])))
 (.and (.opn 0 9 (.ext (.mk 9 (va [1, 2, 3, 4, 5, 6, 7, 8, 9, 10] [])) (.ret [.var 11, .ex (.lit 0), .ex (.lit 14)])))
 (.and (.opn 0 10 (.ext (.mk 10 (va [1, 2, 3, 4, 5, 6, 7, 8, 9, 10] [])) (.ret [.var 11, .ex (.lit 0), .ex (.lit 14)])))
 (.and (.opn 0 11 (.br (.cmp .eql (.var 8) (.lit 0))
 (.ext (.mk 11 (va [1, 2, 3, 4, 5, 6, 7, 8, 9, 10, 11] [])) (.ret [.var 12, .ex (.var 6), .ex (.lit 0)]))
 (.ext (.mk 11 (va [1, 2, 3, 4, 5, 6, 7, 8, 9, 10, 11] [])) (.ret [.var 12, .ex (.lit 0), .ex (.var 8)]))))
 (.and (.opn 0 12 (.ext (.mk 12 (va [1, 2, 3, 4, 5, 6, 7, 8, 9, 10] [])) (.ret [.var 11, .ex (.var 6), .ex (.lit 0)])))
 (.nomore 0 [5, 6, 7, 8, 9, 10, 11, 12])))))))))
theorem rTkIdx : runCtr { (cxDi Tryz.prog) with hints := hsTkIdx } 20 cTkIdx [(0, [5,6,7,8,9,10,11,12])] [(0, [5,6,7,8,9,10,11,12])] = tTkIdx := by
  dsimp only [tTkIdx, va, List.map_cons, List.map_nil, List.cons_append, List.nil_append]
  kernel_rfl
def hsGvErr : List (Nat × Nat × List Nat) := []
def tGvErr : Tree := (.and (.opn 0 14 (.ext (.mk 14 (va [1, 2, 3, 4, 5, 6] [])) (.ret [.var 7, .ex (.lit 14)])))
 (.and (.opn 0 15 (.ext (.mk 15 (va [1, 2, 3, 4, 5, 6, 7] [])) (.ret [.var 8, .ex (.lit 14)])))
 (.and (.opn 0 16 (.ext (.mk 16 (va [1, 2, 3, 4, 5, 6, 7] [])) (.ret [.var 8, .ex (.lit 14)])))
 (.and (.opn 0 17 (.ext (.mk 17 (va [1, 2, 3, 4, 5, 6, 7, 8, 9] [])) (.ret [.var 10, .ex (.lit 14)])))
 (.and (.opn 0 18 (.ext (.mk 18 (va [1, 2, 3, 4, 5, 6, 7, 8, 9] [])) (.ret [.var 10, .ex (.lit 14)])))
 (.and (.opn 0 19 (.ext (.mk 19 (va [1, 2, 3, 4, 5, 6, 7, 8, 9] [])) (.ret [.var 10, .ex (.lit 14)])))
 (.and (.opn 0 20 (.ext (.mk 20 (va [1, 2, 3, 4, 5, 6, 7, 8] [])) (.ret [.var 9, .ex (.var 8)])))
 (.and (.opn 0 21 (.ext (.mk 21 (va [1, 2, 3, 4, 5, 6, 7, 8, 9] [])) (.ret [.var 10, .ex (.lit 0)])))
 (.and (.opn 0 22 (.ext (.mk 22 (va [1, 2, 3, 4, 5, 6, 7] [])) (.ret [.var 8, .ex (.var 7)])))
 (.nomore 0 [14, 15, 16, 17, 18, 19, 20, 21, 22]))))))))))
theorem rGvErr : runCtr { (cxDi Tryz.prog) with hints := hsGvErr } 20 cGvErr [(0, [14,15,16,17,18,19,20,21,22])] [(0, [14,15,16,17,18,19,20,21,22])] = tGvErr := by
  dsimp only [tGvErr, va, List.map_cons, List.map_nil, List.cons_append, List.nil_append]
  kernel_rfl
def hsTuErr : List (Nat × Nat × List Nat) := []
def tTuErr : Tree := (.and (.opn 0 24 (.ext (.mk 24 (va [1, 2, 3, 4, 5, 6, 7, 8, 9] [])) (.ret [.var 10, .ex (.lit 14)])))
 (.and (.opn 0 25 (.ext (.mk 25 (va [1, 2, 3, 4, 5, 6, 7, 8, 9, 10] [])) (.ret [.var 11, .ex (.lit 14)])))
 (.and (.opn 0 26 (.ext (.mk 26 (va [1, 2, 3, 4, 5, 6, 7, 8, 9, 10] [])) (.ret [.var 11, .ex (.lit 14)])))
 (.and (.opn 0 27 (.ext (.mk 27 (va [1, 2, 3, 4, 5, 6, 7, 8, 9, 10, 11] [])) (.ret [.var 12, .ex (.var 8)])))
 (.nomore 0 [24, 25, 26, 27])))))
theorem rTuErr : runCtr { (cxDi Tryz.prog) with hints := hsTuErr } 20 cTuErr [(0, [24,25,26,27])] [(0, [24,25,26,27])] = tTuErr := by
  dsimp only [tTuErr, va, List.map_cons, List.map_nil, List.cons_append, List.nil_append]
  kernel_rfl
end Go.Proofs.YtdabdbbgaekmdaaGreat
namespace Go.Proofs.YtdabdbbgaekmdaaGreat
set_option linter.unusedVariables false
set_option linter.unusedSimpArgs false
set_option linter.unusedSectionVars false
open Go Go.RowKit
theorem nomore_take {O : OpSt} : ∀ (t : Nat) (T : ObjT U) (ps : List (EV U)), objs[t]? = some T → t ∉ [5, 6, 7, 8, 9, 10, 11, 12] → ps.length = T.nv → T.ok ps → some (EV.u (U.take O)) ≠ some (EV.u (T.obj ps)) :=
  nomore_kind (by show ∀ t, t < 44 → t ∉ [5, 6, 7, 8, 9, 10, 11, 12] → kinds.getD t 0 ≠ 6; decide)
theorem nomore_give {O : OpSt} : ∀ (t : Nat) (T : ObjT U) (ps : List (EV U)), objs[t]? = some T → t ∉ [14, 15, 16, 17, 18, 19, 20, 21, 22] → ps.length = T.nv → T.ok ps → some (EV.u (U.give O)) ≠ some (EV.u (T.obj ps)) :=
  nomore_kind (by show ∀ t, t < 44 → t ∉ [14, 15, 16, 17, 18, 19, 20, 21, 22] → kinds.getD t 0 ≠ 8; decide)
theorem nomore_turn {O : OpSt} : ∀ (t : Nat) (T : ObjT U) (ps : List (EV U)), objs[t]? = some T → t ∉ [24, 25, 26, 27] → ps.length = T.nv → T.ok ps → some (EV.u (U.turn O)) ≠ some (EV.u (T.obj ps)) :=
  nomore_kind (by show ∀ t, t < 44 → t ∉ [24, 25, 26, 27] → kinds.getD t 0 ≠ 10; decide)
section
variable {k : Tree} {env : List (EV U)} {X : Cx U} {R : List (EV U) → List (EV U) → Prop}
theorem st_opn {i t : Nat} {T : ObjT U} (hT : X.objs[t]? = some T) (hk : ∀ ps, ps.length = T.nv → T.ok ps → env[i]? = some (.u (T.obj ps)) → k.sat X R (env ++ ps)) : (Tree.opn i t k).sat X R env := by
  simp only [Tree.sat, hT]
  exact hk
end
theorem isWd0 : isWd 0 := ⟨by decide, by decide⟩
theorem idxW_lo' (s w : Int) : -1 ≤ idxW s w ∧ idxW s w ≤ 65534 := by
  unfold idxW; split <;> omega
theorem idxW_hi {s : Int} (h : 1 ≤ s) (w : Int) : idxW s w < s := by
  unfold idxW; split <;> omega
theorem out_jmay (a b : Int) : cJMay.out [.i a, .i b] = [.b (mayB a b)] := rfl
theorem out_qmay (a b : Int) : cQMay.out [.i a, .i b] = [.b (mayB a b)] := rfl
theorem ng_no {l : List Int} {s i : Int} (h : i < 0 ∨ s ≤ i) : OpSt.newGive l s i = OpSt.ended 0 3 := if_pos h
theorem ng_ok {l : List Int} {s i : Int} (h : ¬ (i < 0 ∨ s ≤ i)) : OpSt.newGive l s i = ⟨2, l, 1, i, 0, 0, 0, 0, 0, 0, 0, 0⟩ := if_neg h
theorem nk_no {ks s i w : Int} (h : i < 0 ∨ s ≤ i) : KeySt.new ks s i w = ⟨0, 0, 9, 3⟩ := if_pos h
theorem nk_ok {ks s i w : Int} (h : ¬ (i < 0 ∨ s ≤ i)) : KeySt.new ks s i w = ⟨IntKind.i64.wrap (ks + i), w, 1, 0⟩ := if_neg h
theorem nt_no {l : List Int} {s i fr to co : Int} (h : i < 0 ∨ s ≤ i) : OpSt.newTurn l s i fr to co = OpSt.ended 0 3 := if_pos h
theorem nt_arg {l : List Int} {s i fr to co : Int} (h : ¬ (i < 0 ∨ s ≤ i)) (h1 : mayB fr to = false) : OpSt.newTurn l s i fr to co = OpSt.ended 0 2 := by unfold OpSt.newTurn; rw [if_neg h, if_pos h1]
theorem nt_core {l : List Int} {s i fr to co : Int} (h : ¬ (i < 0 ∨ s ≤ i)) (h1 : mayB fr to = true) (h2 : co < 0 ∨ 64 ≤ co) : OpSt.newTurn l s i fr to co = OpSt.ended 0 3 := by unfold OpSt.newTurn; rw [if_neg h, if_neg (by rw [h1]; decide), if_pos h2]
theorem nt_ok {l : List Int} {s i fr to co : Int} (h : ¬ (i < 0 ∨ s ≤ i)) (h1 : mayB fr to = true) (h2 : ¬ (co < 0 ∨ 64 ≤ co)) : OpSt.newTurn l s i fr to co = ⟨3, l, 1, i, 0, 0, 0, 0, fr, to, co, 0⟩ := by unfold OpSt.newTurn; rw [if_neg h, if_neg (by rw [h1]; decide), if_neg h2]
set_option maxRecDepth 10000
theorem hctsDn : ∀ (ci : Nat) (c : Ctr U), ctsDn[ci]? = some c → c.Holds objs Tryz.prog := by
  intro ci c h
  match ci, h with
  | 0, h => cases h; exact hJMay
  | 1, h => cases h; exact hQMay
  | n + 2, h => cases h
set_option maxHeartbeats 4000000 in
theorem vNTk (P : Program) (hs : List (Nat × Nat × List Nat)) : ∀ ins, ins.length = cNTk.nin → cNTk.pre ins → tNTk.sat { cxDn P with hints := hs } (ctrR cNTk) ins := by
  rintro ins _ ⟨st, ks, t, ls, s, rfl, ⟨g1, g2⟩⟩
  unfold tNTk
  repeat' (first
    | (first
      | (with_reducible refine st_need ?_ ?_
         focus (simp only [dn, reduceCtorEq, va_map] <;> first | omega | assumption))
      | (with_reducible refine st_and ?_ ?_)
      | (with_reducible exact st_ok)
      | (with_reducible refine st_br (fun hc => ?_) (fun hc => ?_) <;> (simp only [dn, reduceCtorEq, va_map] at hc) <;> (try (exfalso; first | contradiction | omega)))
      | (refine st_call (by rfl) (by simp only [dn, reduceCtorEq, va_map] <;> rfl) ?_ (by simp only [out_jmay, out_qmay] <;> rfl) (by simp only [dn] <;> rfl) ?_
         focus (first | exact ⟨_, _, rfl⟩)))
    | (refine st_mk (by rfl) (by simp only [dn, reduceCtorEq, va_map] <;> rfl) ?_ (by simp only [dn] <;> rfl) ?_
       focus
         (first | refine ⟨_, _, _, _, _, rfl, ?_⟩); (repeat' with_reducible apply And.intro) <;> first | rfl | assumption | exact isWd0 | omega | exact (idxW_lo' _ _).1 | exact (idxW_lo' _ _).2 | exact idxW_hi (by omega) _ | trivial | ((with_reducible refine .inl ?_); ((repeat' with_reducible apply And.intro) <;> first | rfl | assumption | exact isWd0 | omega | exact (idxW_lo' _ _).1 | exact (idxW_lo' _ _).2 | exact idxW_hi (by omega) _ | trivial | exact .inl rfl | exact .inr (.inl ⟨rfl, rfl, by omega⟩) | exact .inr (.inr ⟨rfl, rfl, by omega, (idxW_lo' _ _).1, (idxW_lo' _ _).2⟩) | exact .inr (.inr ⟨rfl, rfl, by omega, by omega, by omega⟩) | exact .inr (.inl rfl) | exact .inr (.inr rfl)); done) | ((with_reducible refine .inr (.inl ?_)); ((repeat' with_reducible apply And.intro) <;> first | rfl | assumption | exact isWd0 | omega | exact (idxW_lo' _ _).1 | exact (idxW_lo' _ _).2 | exact idxW_hi (by omega) _ | trivial | exact .inl rfl | exact .inr (.inl ⟨rfl, rfl, by omega⟩) | exact .inr (.inr ⟨rfl, rfl, by omega, (idxW_lo' _ _).1, (idxW_lo' _ _).2⟩) | exact .inr (.inr ⟨rfl, rfl, by omega, by omega, by omega⟩) | exact .inr (.inl rfl) | exact .inr (.inr rfl)); done) | ((with_reducible refine .inr (.inr (.inl ?_))); ((repeat' with_reducible apply And.intro) <;> first | rfl | assumption | exact isWd0 | omega | exact (idxW_lo' _ _).1 | exact (idxW_lo' _ _).2 | exact idxW_hi (by omega) _ | trivial | exact .inl rfl | exact .inr (.inl ⟨rfl, rfl, by omega⟩) | exact .inr (.inr ⟨rfl, rfl, by omega, (idxW_lo' _ _).1, (idxW_lo' _ _).2⟩) | exact .inr (.inr ⟨rfl, rfl, by omega, by omega, by omega⟩) | exact .inr (.inl rfl) | exact .inr (.inr rfl)); done) | ((with_reducible refine .inr (.inr (.inr ?_))); ((repeat' with_reducible apply And.intro) <;> first | rfl | assumption | exact isWd0 | omega | exact (idxW_lo' _ _).1 | exact (idxW_lo' _ _).2 | exact idxW_hi (by omega) _ | trivial | exact .inl rfl | exact .inr (.inl ⟨rfl, rfl, by omega⟩) | exact .inr (.inr ⟨rfl, rfl, by omega, (idxW_lo' _ _).1, (idxW_lo' _ _).2⟩) | exact .inr (.inr ⟨rfl, rfl, by omega, by omega, by omega⟩) | exact .inr (.inl rfl) | exact .inr (.inr rfl)); done) | ((with_reducible refine .inr (.inr ?_)); ((repeat' with_reducible apply And.intro) <;> first | rfl | assumption | exact isWd0 | omega | exact (idxW_lo' _ _).1 | exact (idxW_lo' _ _).2 | exact idxW_hi (by omega) _ | trivial | exact .inl rfl | exact .inr (.inl ⟨rfl, rfl, by omega⟩) | exact .inr (.inr ⟨rfl, rfl, by omega, (idxW_lo' _ _).1, (idxW_lo' _ _).2⟩) | exact .inr (.inr ⟨rfl, rfl, by omega, by omega, by omega⟩) | exact .inr (.inl rfl) | exact .inr (.inr rfl)); done) | ((with_reducible refine .inr ?_); ((repeat' with_reducible apply And.intro) <;> first | rfl | assumption | exact isWd0 | omega | exact (idxW_lo' _ _).1 | exact (idxW_lo' _ _).2 | exact idxW_hi (by omega) _ | trivial | exact .inl rfl | exact .inr (.inl ⟨rfl, rfl, by omega⟩) | exact .inr (.inr ⟨rfl, rfl, by omega, (idxW_lo' _ _).1, (idxW_lo' _ _).2⟩) | exact .inr (.inr ⟨rfl, rfl, by omega, by omega, by omega⟩) | exact .inr (.inl rfl) | exact .inr (.inr rfl)); done))
    | (refine st_ret (by simp only [dn, reduceCtorEq, va_map] <;> rfl) ?_
       show [EV.u _] = [EV.u (U.take (OpSt.newTake _))]
       first
         | rfl
         | (rw [ng_no (by omega)]; done)
         | (rw [ng_ok (by omega)]; done)
         | (rw [nk_no (by omega)]; done)
         | (rw [nk_ok (by omega)]; done)
         | (rw [nt_no (by omega)]; done)
         | (rw [nt_arg (by omega) (by assumption)]; done)
         | (rw [nt_core (by omega) (by assumption) (by omega)]; done)
         | (rw [nt_ok (by omega) (by assumption) (by omega)]; done)
         | (rw [ng_no (by omega)]; rfl)
         | (rw [nt_no (by omega)]; rfl)
         | (rw [nt_arg (by omega) (by assumption)]; rfl)
         | (rw [nt_core (by omega) (by assumption) (by omega)]; rfl)
         | (rw [ng_ok (by omega)]; rfl)
         | (rw [nk_no (by omega)]; rfl)
         | (rw [nk_ok (by omega)]; rfl)
         | (rw [nt_ok (by omega) (by assumption) (by omega)]; rfl))
    | fail "no step")
theorem hNTk : cNTk.Holds objs Tryz.prog := runCtr_holds (X := { cxDn Tryz.prog with hints := hsNTk }) objsOk mixed hctsDn (callable _ Tryz.func49 (by kernel_rfl) (by kernel_rfl)) (by rintro ins _ ⟨_, _, _, _, _, rfl, _⟩; rfl) (by rw [rNTk]; exact vNTk _ _)
set_option maxHeartbeats 4000000 in
theorem vNGv (P : Program) (hs : List (Nat × Nat × List Nat)) : ∀ ins, ins.length = cNGv.nin → cNGv.pre ins → tNGv.sat { cxDn P with hints := hs } (ctrR cNGv) ins := by
  rintro ins _ ⟨st, ks, t, ls, s, i, rfl, ⟨g1, g2⟩⟩
  unfold tNGv
  repeat' (first
    | (first
      | (with_reducible refine st_need ?_ ?_
         focus (simp only [dn, reduceCtorEq, va_map] <;> first | omega | assumption))
      | (with_reducible refine st_and ?_ ?_)
      | (with_reducible exact st_ok)
      | (with_reducible refine st_br (fun hc => ?_) (fun hc => ?_) <;> (simp only [dn, reduceCtorEq, va_map] at hc) <;> (try (exfalso; first | contradiction | omega)))
      | (refine st_call (by rfl) (by simp only [dn, reduceCtorEq, va_map] <;> rfl) ?_ (by simp only [out_jmay, out_qmay] <;> rfl) (by simp only [dn] <;> rfl) ?_
         focus (first | exact ⟨_, _, rfl⟩)))
    | (refine st_mk (by rfl) (by simp only [dn, reduceCtorEq, va_map] <;> rfl) ?_ (by simp only [dn] <;> rfl) ?_
       focus
         (first | refine ⟨_, _, _, _, _, _, rfl, ?_⟩ | refine ⟨_, _, _, _, _, _, _, rfl, ?_⟩); (repeat' with_reducible apply And.intro) <;> first | rfl | assumption | exact isWd0 | omega | exact (idxW_lo' _ _).1 | exact (idxW_lo' _ _).2 | exact idxW_hi (by omega) _ | trivial | ((with_reducible refine .inl ?_); ((repeat' with_reducible apply And.intro) <;> first | rfl | assumption | exact isWd0 | omega | exact (idxW_lo' _ _).1 | exact (idxW_lo' _ _).2 | exact idxW_hi (by omega) _ | trivial | exact .inl rfl | exact .inr (.inl ⟨rfl, rfl, by omega⟩) | exact .inr (.inr ⟨rfl, rfl, by omega, (idxW_lo' _ _).1, (idxW_lo' _ _).2⟩) | exact .inr (.inr ⟨rfl, rfl, by omega, by omega, by omega⟩) | exact .inr (.inl rfl) | exact .inr (.inr rfl)); done) | ((with_reducible refine .inr (.inl ?_)); ((repeat' with_reducible apply And.intro) <;> first | rfl | assumption | exact isWd0 | omega | exact (idxW_lo' _ _).1 | exact (idxW_lo' _ _).2 | exact idxW_hi (by omega) _ | trivial | exact .inl rfl | exact .inr (.inl ⟨rfl, rfl, by omega⟩) | exact .inr (.inr ⟨rfl, rfl, by omega, (idxW_lo' _ _).1, (idxW_lo' _ _).2⟩) | exact .inr (.inr ⟨rfl, rfl, by omega, by omega, by omega⟩) | exact .inr (.inl rfl) | exact .inr (.inr rfl)); done) | ((with_reducible refine .inr (.inr (.inl ?_))); ((repeat' with_reducible apply And.intro) <;> first | rfl | assumption | exact isWd0 | omega | exact (idxW_lo' _ _).1 | exact (idxW_lo' _ _).2 | exact idxW_hi (by omega) _ | trivial | exact .inl rfl | exact .inr (.inl ⟨rfl, rfl, by omega⟩) | exact .inr (.inr ⟨rfl, rfl, by omega, (idxW_lo' _ _).1, (idxW_lo' _ _).2⟩) | exact .inr (.inr ⟨rfl, rfl, by omega, by omega, by omega⟩) | exact .inr (.inl rfl) | exact .inr (.inr rfl)); done) | ((with_reducible refine .inr (.inr (.inr ?_))); ((repeat' with_reducible apply And.intro) <;> first | rfl | assumption | exact isWd0 | omega | exact (idxW_lo' _ _).1 | exact (idxW_lo' _ _).2 | exact idxW_hi (by omega) _ | trivial | exact .inl rfl | exact .inr (.inl ⟨rfl, rfl, by omega⟩) | exact .inr (.inr ⟨rfl, rfl, by omega, (idxW_lo' _ _).1, (idxW_lo' _ _).2⟩) | exact .inr (.inr ⟨rfl, rfl, by omega, by omega, by omega⟩) | exact .inr (.inl rfl) | exact .inr (.inr rfl)); done) | ((with_reducible refine .inr (.inr ?_)); ((repeat' with_reducible apply And.intro) <;> first | rfl | assumption | exact isWd0 | omega | exact (idxW_lo' _ _).1 | exact (idxW_lo' _ _).2 | exact idxW_hi (by omega) _ | trivial | exact .inl rfl | exact .inr (.inl ⟨rfl, rfl, by omega⟩) | exact .inr (.inr ⟨rfl, rfl, by omega, (idxW_lo' _ _).1, (idxW_lo' _ _).2⟩) | exact .inr (.inr ⟨rfl, rfl, by omega, by omega, by omega⟩) | exact .inr (.inl rfl) | exact .inr (.inr rfl)); done) | ((with_reducible refine .inr ?_); ((repeat' with_reducible apply And.intro) <;> first | rfl | assumption | exact isWd0 | omega | exact (idxW_lo' _ _).1 | exact (idxW_lo' _ _).2 | exact idxW_hi (by omega) _ | trivial | exact .inl rfl | exact .inr (.inl ⟨rfl, rfl, by omega⟩) | exact .inr (.inr ⟨rfl, rfl, by omega, (idxW_lo' _ _).1, (idxW_lo' _ _).2⟩) | exact .inr (.inr ⟨rfl, rfl, by omega, by omega, by omega⟩) | exact .inr (.inl rfl) | exact .inr (.inr rfl)); done))
    | (refine st_ret (by simp only [dn, reduceCtorEq, va_map] <;> rfl) ?_
       show [EV.u _] = [EV.u (U.give (OpSt.newGive _ _ _))]
       first
         | rfl
         | (rw [ng_no (by omega)]; done)
         | (rw [ng_ok (by omega)]; done)
         | (rw [nk_no (by omega)]; done)
         | (rw [nk_ok (by omega)]; done)
         | (rw [nt_no (by omega)]; done)
         | (rw [nt_arg (by omega) (by assumption)]; done)
         | (rw [nt_core (by omega) (by assumption) (by omega)]; done)
         | (rw [nt_ok (by omega) (by assumption) (by omega)]; done)
         | (rw [ng_no (by omega)]; rfl)
         | (rw [nt_no (by omega)]; rfl)
         | (rw [nt_arg (by omega) (by assumption)]; rfl)
         | (rw [nt_core (by omega) (by assumption) (by omega)]; rfl)
         | (rw [ng_ok (by omega)]; rfl)
         | (rw [nk_no (by omega)]; rfl)
         | (rw [nk_ok (by omega)]; rfl)
         | (rw [nt_ok (by omega) (by assumption) (by omega)]; rfl))
    | fail "no step")
theorem hNGv : cNGv.Holds objs Tryz.prog := runCtr_holds (X := { cxDn Tryz.prog with hints := hsNGv }) objsOk mixed hctsDn (callable _ Tryz.func33 (by kernel_rfl) (by kernel_rfl)) (by rintro ins _ ⟨_, _, _, _, _, _, rfl, _⟩; rfl) (by rw [rNGv]; exact vNGv _ _)
set_option maxHeartbeats 4000000 in
theorem vNTu (P : Program) (hs : List (Nat × Nat × List Nat)) : ∀ ins, ins.length = cNTu.nin → cNTu.pre ins → tNTu.sat { cxDn P with hints := hs } (ctrR cNTu) ins := by
  rintro ins _ ⟨st, ks, t, ls, s, i, fr, to, co, rfl, ⟨g1, g2⟩⟩
  unfold tNTu
  repeat' (first
    | (first
      | (with_reducible refine st_need ?_ ?_
         focus (simp only [dn, reduceCtorEq, va_map] <;> first | omega | assumption))
      | (with_reducible refine st_and ?_ ?_)
      | (with_reducible exact st_ok)
      | (with_reducible refine st_br (fun hc => ?_) (fun hc => ?_) <;> (simp only [dn, reduceCtorEq, va_map] at hc) <;> (try (exfalso; first | contradiction | omega)))
      | (refine st_call (by rfl) (by simp only [dn, reduceCtorEq, va_map] <;> rfl) ?_ (by simp only [out_jmay, out_qmay] <;> rfl) (by simp only [dn] <;> rfl) ?_
         focus (first | exact ⟨_, _, rfl⟩)))
    | (refine st_mk (by rfl) (by simp only [dn, reduceCtorEq, va_map] <;> rfl) ?_ (by simp only [dn] <;> rfl) ?_
       focus
         (first | refine ⟨_, _, _, _, _, _, _, _, _, rfl, ?_⟩ | refine ⟨_, _, _, _, _, _, _, _, _, _, _, rfl, ?_⟩); (repeat' with_reducible apply And.intro) <;> first | rfl | assumption | exact isWd0 | omega | exact (idxW_lo' _ _).1 | exact (idxW_lo' _ _).2 | exact idxW_hi (by omega) _ | trivial | ((with_reducible refine .inl ?_); ((repeat' with_reducible apply And.intro) <;> first | rfl | assumption | exact isWd0 | omega | exact (idxW_lo' _ _).1 | exact (idxW_lo' _ _).2 | exact idxW_hi (by omega) _ | trivial | exact .inl rfl | exact .inr (.inl ⟨rfl, rfl, by omega⟩) | exact .inr (.inr ⟨rfl, rfl, by omega, (idxW_lo' _ _).1, (idxW_lo' _ _).2⟩) | exact .inr (.inr ⟨rfl, rfl, by omega, by omega, by omega⟩) | exact .inr (.inl rfl) | exact .inr (.inr rfl)); done) | ((with_reducible refine .inr (.inl ?_)); ((repeat' with_reducible apply And.intro) <;> first | rfl | assumption | exact isWd0 | omega | exact (idxW_lo' _ _).1 | exact (idxW_lo' _ _).2 | exact idxW_hi (by omega) _ | trivial | exact .inl rfl | exact .inr (.inl ⟨rfl, rfl, by omega⟩) | exact .inr (.inr ⟨rfl, rfl, by omega, (idxW_lo' _ _).1, (idxW_lo' _ _).2⟩) | exact .inr (.inr ⟨rfl, rfl, by omega, by omega, by omega⟩) | exact .inr (.inl rfl) | exact .inr (.inr rfl)); done) | ((with_reducible refine .inr (.inr (.inl ?_))); ((repeat' with_reducible apply And.intro) <;> first | rfl | assumption | exact isWd0 | omega | exact (idxW_lo' _ _).1 | exact (idxW_lo' _ _).2 | exact idxW_hi (by omega) _ | trivial | exact .inl rfl | exact .inr (.inl ⟨rfl, rfl, by omega⟩) | exact .inr (.inr ⟨rfl, rfl, by omega, (idxW_lo' _ _).1, (idxW_lo' _ _).2⟩) | exact .inr (.inr ⟨rfl, rfl, by omega, by omega, by omega⟩) | exact .inr (.inl rfl) | exact .inr (.inr rfl)); done) | ((with_reducible refine .inr (.inr (.inr ?_))); ((repeat' with_reducible apply And.intro) <;> first | rfl | assumption | exact isWd0 | omega | exact (idxW_lo' _ _).1 | exact (idxW_lo' _ _).2 | exact idxW_hi (by omega) _ | trivial | exact .inl rfl | exact .inr (.inl ⟨rfl, rfl, by omega⟩) | exact .inr (.inr ⟨rfl, rfl, by omega, (idxW_lo' _ _).1, (idxW_lo' _ _).2⟩) | exact .inr (.inr ⟨rfl, rfl, by omega, by omega, by omega⟩) | exact .inr (.inl rfl) | exact .inr (.inr rfl)); done) | ((with_reducible refine .inr (.inr ?_)); ((repeat' with_reducible apply And.intro) <;> first | rfl | assumption | exact isWd0 | omega | exact (idxW_lo' _ _).1 | exact (idxW_lo' _ _).2 | exact idxW_hi (by omega) _ | trivial | exact .inl rfl | exact .inr (.inl ⟨rfl, rfl, by omega⟩) | exact .inr (.inr ⟨rfl, rfl, by omega, (idxW_lo' _ _).1, (idxW_lo' _ _).2⟩) | exact .inr (.inr ⟨rfl, rfl, by omega, by omega, by omega⟩) | exact .inr (.inl rfl) | exact .inr (.inr rfl)); done) | ((with_reducible refine .inr ?_); ((repeat' with_reducible apply And.intro) <;> first | rfl | assumption | exact isWd0 | omega | exact (idxW_lo' _ _).1 | exact (idxW_lo' _ _).2 | exact idxW_hi (by omega) _ | trivial | exact .inl rfl | exact .inr (.inl ⟨rfl, rfl, by omega⟩) | exact .inr (.inr ⟨rfl, rfl, by omega, (idxW_lo' _ _).1, (idxW_lo' _ _).2⟩) | exact .inr (.inr ⟨rfl, rfl, by omega, by omega, by omega⟩) | exact .inr (.inl rfl) | exact .inr (.inr rfl)); done))
    | (refine st_ret (by simp only [dn, reduceCtorEq, va_map] <;> rfl) ?_
       show [EV.u _] = [EV.u (U.turn (OpSt.newTurn _ _ _ _ _ _))]
       first
         | rfl
         | (rw [ng_no (by omega)]; done)
         | (rw [ng_ok (by omega)]; done)
         | (rw [nk_no (by omega)]; done)
         | (rw [nk_ok (by omega)]; done)
         | (rw [nt_no (by omega)]; done)
         | (rw [nt_arg (by omega) (by assumption)]; done)
         | (rw [nt_core (by omega) (by assumption) (by omega)]; done)
         | (rw [nt_ok (by omega) (by assumption) (by omega)]; done)
         | (rw [ng_no (by omega)]; rfl)
         | (rw [nt_no (by omega)]; rfl)
         | (rw [nt_arg (by omega) (by assumption)]; rfl)
         | (rw [nt_core (by omega) (by assumption) (by omega)]; rfl)
         | (rw [ng_ok (by omega)]; rfl)
         | (rw [nk_no (by omega)]; rfl)
         | (rw [nk_ok (by omega)]; rfl)
         | (rw [nt_ok (by omega) (by assumption) (by omega)]; rfl))
    | fail "no step")
theorem hNTu : cNTu.Holds objs Tryz.prog := runCtr_holds (X := { cxDn Tryz.prog with hints := hsNTu }) objsOk mixed hctsDn (callable _ Tryz.func45 (by kernel_rfl) (by kernel_rfl)) (by rintro ins _ ⟨_, _, _, _, _, _, _, _, _, rfl, _⟩; rfl) (by rw [rNTu]; exact vNTu _ _)
end Go.Proofs.YtdabdbbgaekmdaaGreat
