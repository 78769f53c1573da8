/- Memories: what may be in one; what contracts of memories ask and answer. -/
import Derived.Test.YtdabdbbgaekmdaaGreatCwV
import Derived.Test.YtdabdbbgaekmdaaGreatRmV
import Derived.Test.YtdabdbbgaekmdaaGreatSw
import Derived.Test.YtdabdbbgaekmdaaGreatSy
import Derived.Test.YtdabdbbgaekmdaaGreatWb
namespace Go.Proofs.YtdabdbbgaekmdaaGreat
set_option linter.unusedVariables false
set_option linter.unusedSimpArgs false
set_option linter.unusedSectionVars false
open Go Go.RowKit

def ctsM : List (Ctr U) := [cLoad, cStore, cCAS, cNew, cLast, cCount, cWords, cSameWords, cPick]
theorem hctsM : ∀ (ci : Nat) (c : Ctr U), ctsM[ci]? = some c → c.Holds objs Tryz.prog := by
  intro ci c h
  match ci, h with
  | 0, h => cases h; exact hLoad
  | 1, h => cases h; exact hStore
  | 2, h => cases h; exact hCAS
  | 3, h => cases h; exact hNew
  | 4, h => cases h; exact hLast
  | 5, h => cases h; exact hCount
  | 6, h => cases h; exact hWords
  | 7, h => cases h; exact hSameWords
  | 8, h => cases h; exact hPick
  | n + 9, h => cases h

/-- a memory as it may be -/
def MemSt.fine (M : MemSt) : Prop := M.W.length ≤ 4096 ∧ ∀ x ∈ M.W, isW x
def MemSt.at0 (M : MemSt) (x : Int) : Int := if 0 ≤ x ∧ x < M.W.length then M.W[x.toNat]?.getD 0 else 0
theorem pre_load (M : MemSt) (x : Int) : cLoad.pre [.u (.mem M), .i x] = True := eq_true ⟨_, _, rfl⟩
theorem pre_store (M : MemSt) (x y : Int) : cStore.pre [.u (.mem M), .i x, .i y] = True := eq_true ⟨_, _, _, rfl⟩
theorem pre_cas (M : MemSt) (x y z : Int) : cCAS.pre [.u (.mem M), .i x, .i y, .i z] = True := eq_true ⟨_, _, _, _, rfl⟩
theorem pre_last (M : MemSt) : cLast.pre [.u (.mem M)] = True := eq_true ⟨_, rfl⟩
theorem pre_count (M : MemSt) : cCount.pre [.u (.mem M)] = True := eq_true ⟨_, rfl⟩
theorem pre_words (M : MemSt) : cWords.pre [.u (.mem M)] = True := eq_true ⟨_, rfl⟩
theorem pre_new (n : Int) : cNew.pre [.i n] = True := eq_true ⟨_, rfl⟩
theorem out_load (M : MemSt) (x : Int) : cLoad.out [.u (.mem M), .i x] = [.u (.mem (M.load x)), .i (M.load x).n] := rfl
theorem out_store (M : MemSt) (x y : Int) : cStore.out [.u (.mem M), .i x, .i y] = [.u (.mem (M.store x y))] := rfl
theorem out_cas (M : MemSt) (x y z : Int) : cCAS.out [.u (.mem M), .i x, .i y, .i z] = [.u (.mem (M.cas x y z)), .b (M.cas x y z).h] := rfl
theorem out_last (M : MemSt) : cLast.out [.u (.mem M)] = [.u (.mem M), .i M.k, .i M.a, .i M.o, .i M.n, .b M.h] := rfl
theorem out_count (M : MemSt) : cCount.out [.u (.mem M)] = [.u (.mem M), .i M.N] := rfl
theorem out_words (M : MemSt) : cWords.out [.u (.mem M)] = [.u (.mem M), .l M.W, .i M.W.length] := rfl
theorem out_same (xs ys : List Int) (a b c d : Int) : cSameWords.out [.l xs, .l ys, .i a, .i c, .i b, .i d] = [.b (decide (xs.take a.toNat = ys.take b.toNat))] := rfl
theorem out_new {n : Int} (h : 1 ≤ n) (h1 : n ≤ 4096) : cNew.out [.i n] = [.u (.mem (.new n)), .i 0] := by simp [cNew, h, h1]
theorem pre_same {xs ys : List Int} {a b c d : Int} (h : 0 ≤ a) (h1 : a ≤ xs.length) (h2 : 0 ≤ b) (h3 : b ≤ ys.length) (h4 : a < 2 ^ 62) : cSameWords.pre [.l xs, .l ys, .i a, .i c, .i b, .i d] := ⟨_, _, _, _, _, _, rfl, h, h1, h2, h3, h4⟩
theorem pre_pick {x n : Int} (h : 0 < n) (h1 : n < 2 ^ 62) : cPick.pre [.i x, .i n] := ⟨_, _, rfl, h, h1⟩
theorem out_pick (x n : Int) : cPick.out [.i x, .i n] = [.i (x.emod n)] := rfl
theorem len_acc (M : MemSt) (k x y : Int) (b : Bool) : (M.acc k x y b).W.length = M.W.length := by unfold MemSt.acc; split <;> simp
theorem len_load (M : MemSt) (x : Int) : (M.load x).W.length = M.W.length := len_acc _ _ _ _ _
theorem len_store (M : MemSt) (x y : Int) : (M.store x y).W.length = M.W.length := len_acc _ _ _ _ _
theorem len_cas (M : MemSt) (x y z : Int) : (M.cas x y z).W.length = M.W.length := by unfold MemSt.cas; split <;> exact len_acc _ _ _ _ _
theorem isW0 : isW 0 := ⟨by decide, by decide⟩
theorem fine_get {M : MemSt} (h : M.fine) (i : Nat) : isW (M.W[i]?.getD 0) := by
  cases e : M.W[i]? with
  | none => exact isW0
  | some x => exact h.2 x (List.mem_of_getElem? e)
theorem fine_word {M : MemSt} (h : M.fine) (x : Int) : isW (M.word x) := fine_get h _
theorem fine_at0 {M : MemSt} (h : M.fine) (x : Int) : isW (M.at0 x) := by
  unfold MemSt.at0; split
  · exact fine_get h _
  · exact isW0
theorem fine_acc {M : MemSt} (h : M.fine) {k a w : Int} {b : Bool} (hw : isW w) : (M.acc k a w b).fine := by
  refine ⟨by rw [len_acc]; exact h.1, fun x hx => ?_⟩
  unfold MemSt.acc at hx
  split at hx
  · rcases List.mem_or_eq_of_mem_set hx with hx | rfl
    · exact h.2 x hx
    · exact hw
  · exact h.2 x hx
theorem n_acc {M : MemSt} {k a w : Int} {b : Bool} (hw : isW w) : isW (M.acc k a w b).n := by
  unfold MemSt.acc; split
  · exact hw
  · exact isW0
theorem fine_load {M : MemSt} (h : M.fine) (x : Int) : (M.load x).fine := fine_acc h (fine_word h x)
theorem n_load {M : MemSt} (h : M.fine) (x : Int) : isW (M.load x).n := n_acc (fine_word h x)
theorem fine_store {M : MemSt} (h : M.fine) {x w : Int} (hw : isW w) : (M.store x w).fine := fine_acc h hw
theorem fine_cas {M : MemSt} (h : M.fine) {x y z : Int} (hw : isW z) : (M.cas x y z).fine := by
  unfold MemSt.cas; split
  · exact fine_acc h hw
  · exact fine_acc h (fine_word h x)
theorem wrap64_lo (x : Int) : 0 ≤ IntKind.u64.wrap x := by simp [IntKind.wrap, IntKind.signed, IntKind.bits]; omega
theorem fl_load {M : MemSt} (h : M.fine) {x : Int} : cQLoad.pre [.u (.rmem M), .i x] := ⟨_, _, rfl, h.1⟩
theorem fl_store {M : MemSt} (h : M.fine) {x y : Int} : cQStore.pre [.u (.rmem M), .i x, .i y] := ⟨_, _, _, rfl, h.1⟩
theorem fl_cas {M : MemSt} (h : M.fine) {x y z : Int} : cQCAS.pre [.u (.rmem M), .i x, .i y, .i z] := ⟨_, _, _, _, rfl, h.1⟩
theorem fl_at {M : MemSt} (h : M.fine) {x : Int} : cQAt.pre [.u (.rmem M), .i x] := ⟨_, _, rfl, h.1⟩
theorem fo_load (M : MemSt) (x : Int) : cQLoad.out [.u (.rmem M), .i x] = [.u (.rmem (M.load x)), .i (M.load x).n] := rfl
theorem fo_store (M : MemSt) (x y : Int) : cQStore.out [.u (.rmem M), .i x, .i y] = [.u (.rmem (M.store x y))] := rfl
theorem fo_cas (M : MemSt) (x y z : Int) : cQCAS.out [.u (.rmem M), .i x, .i y, .i z] = [.u (.rmem (M.cas x y z)), .b (M.cas x y z).h] := rfl
theorem fo_at (M : MemSt) (x : Int) : cQAt.out [.u (.rmem M), .i x] = [.u (.rmem M), .i (M.at0 x)] := rfl
theorem toNat_succ {i : Int} (h : 0 ≤ i) : (i + 1).toNat = i.toNat + 1 := by omega
theorem take_app {xs ys r : List Int} {i : Nat} {x : Int} (h : xs.take i = ys) (hi : i ≤ xs.length) : (xs.take i ++ x :: r).take (i + 1) = ys ++ [x] := by
  rw [h, List.take_append]
  have : ys.length = i := by rw [← h, List.length_take]; omega
  rw [List.take_of_length_le (by omega), this, Nat.add_sub_cancel_left]
  rfl
theorem split_at {xs ys : List Int} {i : Nat} (h : xs.take i = ys) : ∃ c, xs = ys ++ c := ⟨xs.drop i, by rw [← h, List.take_append_drop]⟩
theorem len_app {xs r : List Int} {x : Int} {i : Nat} (h : i ≤ xs.length) : (xs.take i ++ x :: r).length = i + 1 + r.length := by simp; omega
theorem at0_in {M : MemSt} {x : Int} (h : 0 ≤ x) (h' : x < M.W.length) : M.at0 x = M.W[x.toNat]?.getD 0 := if_pos ⟨h, h'⟩
theorem at0_out {M : MemSt} {x : Int} (h : x < 0 ∨ M.W.length ≤ x) : M.at0 x = 0 := if_neg (by omega)
theorem wrap_u64' {n : Int} (h : 0 ≤ n) (h' : n < 18446744073709551616) : IntKind.u64.wrap n = n := by simp [IntKind.wrap, IntKind.signed, IntKind.bits]; omega
section
variable {U : Type} [Nil U] {X : Cx U} {R : List (EV U) → List (EV U) → Prop}
theorem st_app {i : Option Nat} {e x : Ex} {k : Tree} {env : List (EV U)} {xs : List Int} {n y : Int} (hl : (match i with | none => [] | some i => gL env i) = xs) (hn : e.den env = n) (hx : x.den env = y) (hk : ∀ (r : List Int) (env' : List (EV U)), env ++ [.l (xs.take n.toNat ++ y :: r), .i ((n.toNat + 1 + r.length : Nat) : Int)] = env' → k.sat X R env') : (Tree.app i e x k).sat X R env := by
  subst hl hn hx
  exact fun r => hk r _ rfl
theorem st_rng {k : Tree} {env : List (EV U)} (hk : ∀ (L : Loop) (env' : List (EV U)), env ++ [.r L] = env' → k.sat X R env') : (Tree.rng k).sat X R env := fun L => hk L _ rfl
end
theorem fine_new {n : Int} (h : n ≤ 4096) : (MemSt.new n).fine := by
  refine ⟨by show (List.replicate n.toNat (0 : Int)).length ≤ 4096; rw [List.length_replicate]; omega, fun x hx => ?_⟩
  have : x = 0 := List.eq_of_mem_replicate hx
  subst this; exact isW0
theorem fine_le {M : MemSt} (h : M.fine) : M.W.length ≤ 4096 := h.1
theorem cmp_self (x : Int) : cmpDen .eql x x = true := by simp [cmpDen]
end Go.Proofs.YtdabdbbgaekmdaaGreat
