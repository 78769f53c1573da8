/- What is linked on a level is told: the plain law. -/
import Derived.Test.YtbmbiiiacajolaaTo
namespace Go.Proofs.Ytbmbiiiacajolaa
set_option linter.unusedVariables false
set_option linter.unusedSimpArgs false
set_option linter.unusedSectionVars false
open Go Go.RowKit

/-- is a number's bit set? -/
def mkB (mk k : Int) : Bool := cmpDen .eql (binDen .and .i64 (binDen .shr .i64 mk k) 1) 1
/-- the word of a ref, with a mark, or without -/
def wordE (i g : Int) (b : Bool) : Int :=
  match b with
  | true => binDen .or .u64 (binDen .andNot .u64 (binDen .or .u64 (binDen .or .u64 0 (binDen .shl .u64 (IntKind.u64.wrap (binDen .add .i64 i 1)) 0)) (binDen .shl .u64 (IntKind.u64.wrap g) 16)) 9223372036854775808) 9223372036854775808
  | false => binDen .andNot .u64 (binDen .andNot .u64 (binDen .or .u64 (binDen .or .u64 0 (binDen .shl .u64 (IntKind.u64.wrap (binDen .add .i64 i 1)) 0)) (binDen .shl .u64 (IntKind.u64.wrap g) 16)) 9223372036854775808) 9223372036854775808
def lastE (b : Bool) : Int := match b with | true => 9223372036854775808 | false => 0
def prevE (R : List Int) : Nat → Int
  | 0 => -1
  | j + 1 => R[j]?.getD 0
def mkE (bs : List Bool) : Nat → Bool
  | 0 => false
  | j + 1 => bs[j]?.getD false
/-- the words, when so many are linked -/
def linkW (R : List Int) (bs : List Bool) (lv : Int) : Nat → List Int
  | 0 => fillC.W
  | k + 1 => (linkW R bs lv k).set (nextE (prevE R k) lv).toNat (if k < R.length then wordE (R[k]?.getD 0) (5 + (k : Int)) (mkE bs k) else lastE (mkE bs k))
def liveR (R : List Int) (bs : List Bool) : Nat → List Int
  | 0 => []
  | k + 1 => match bs[k]?.getD false with | true => liveR R bs k | false => liveR R bs k ++ [R[k]?.getD 0]
def bitsL (mk : Int) : List Bool := [mkB mk 0, mkB mk 1, mkB mk 2]
theorem bits_get {mk k : Int} (h : 0 ≤ k) (h' : k < 3) : (bitsL mk)[k.toNat]?.getD false = mkB mk k := by
  have : k = 0 ∨ k = 1 ∨ k = 2 := by omega
  rcases this with rfl | rfl | rfl <;> rfl
theorem len_live (R : List Int) (bs : List Bool) : ∀ k, (liveR R bs k).length ≤ k
  | 0 => Nat.le_refl 0
  | k + 1 => by
    have := len_live R bs k
    rw [liveR]; split
    · omega
    · rw [List.length_append]; simp; omega
/-- the lists of the three nodes -/
def rowsA : List (List Int) := [[], [0], [1], [2], [0, 1], [0, 2], [1, 0], [1, 2], [2, 0], [2, 1], [0, 1, 2], [0, 2, 1], [1, 0, 2], [1, 2, 0], [2, 0, 1], [2, 1, 0]]
theorem three {x : Int} (h : 0 ≤ x ∧ x < 3) : x = 0 ∨ x = 1 ∨ x = 2 := by omega
theorem row_mem : ∀ (R : List Int), R.Nodup → (∀ x ∈ R, 0 ≤ x ∧ x < 3) → R ∈ rowsA
  | [], _, _ => by decide
  | [a], _, h => by
    rcases three (h a (by simp)) with rfl | rfl | rfl <;> decide
  | [a, b], hn, h => by
    simp only [List.nodup_cons, List.mem_cons, List.not_mem_nil, or_false, not_false_eq_true, List.nodup_nil, and_true] at hn
    rcases three (h a (by simp)) with rfl | rfl | rfl <;> rcases three (h b (by simp)) with rfl | rfl | rfl <;> first | decide | (exfalso; omega)
  | [a, b, c], hn, h => by
    simp only [List.nodup_cons, List.mem_cons, List.not_mem_nil, or_false, not_false_eq_true, List.nodup_nil, and_true, not_or] at hn
    rcases three (h a (by simp)) with rfl | rfl | rfl <;> rcases three (h b (by simp)) with rfl | rfl | rfl <;> rcases three (h c (by simp)) with rfl | rfl | rfl <;> first | decide | (exfalso; omega)
  | a :: b :: c :: d :: l, hn, h => by
    exfalso
    have h1 := h a (by simp)
    have h2 := h b (by simp)
    have h3 := h c (by simp)
    have h4 := h d (by simp)
    simp only [List.nodup_cons, List.mem_cons, not_or] at hn
    omega
theorem row_len {R : List Int} (hn : R.Nodup) (h : ∀ x ∈ R, 0 ≤ x ∧ x < 3) : R.length ≤ 3 := by
  have hm := row_mem R hn h
  have : ∀ r ∈ rowsA, r.length ≤ 3 := by decide
  exact this R hm
/-- is told what was linked? -/
def chk (R : List Int) (bs : List Bool) : Bool :=
  (levelL (linkW R bs 0 (R.length + 1)) 0 == R) && (levelL (linkW R bs 1 (R.length + 1)) 1 == R) && (levelL (linkW R bs 1 (R.length + 1)) 0 == []) && (liveL (linkW R bs 1 (R.length + 1)) == []) && (liveL (linkW R bs 0 (R.length + 1)) == liveR R bs R.length)
def boolsA : List (List Bool) := [[true, true, true], [true, true, false], [true, false, true], [true, false, false], [false, true, true], [false, true, false], [false, false, true], [false, false, false]]
theorem chk_all : (rowsA.all fun R => boolsA.all fun bs => chk R bs) = true := by kernel_rfl
theorem bits_mem (mk : Int) : bitsL mk ∈ boolsA := by
  unfold bitsL
  cases mkB mk 0 <;> cases mkB mk 1 <;> cases mkB mk 2 <;> decide
theorem chk_is {R : List Int} (hn : R.Nodup) (h : ∀ x ∈ R, 0 ≤ x ∧ x < 3) (mk : Int) :
    levelL (linkW R (bitsL mk) 0 (R.length + 1)) 0 = R ∧ levelL (linkW R (bitsL mk) 1 (R.length + 1)) 1 = R ∧ levelL (linkW R (bitsL mk) 1 (R.length + 1)) 0 = [] ∧ liveL (linkW R (bitsL mk) 1 (R.length + 1)) = [] ∧ liveL (linkW R (bitsL mk) 0 (R.length + 1)) = liveR R (bitsL mk) R.length := by
  have := List.all_eq_true.1 (List.all_eq_true.1 chk_all R (row_mem R hn h)) (bitsL mk) (bits_mem mk)
  simp only [chk, Bool.and_eq_true, beq_iff_eq] at this
  obtain ⟨⟨⟨⟨a, b⟩, c⟩, d⟩, e⟩ := this
  exact ⟨a, b, c, d, e⟩
theorem prev_rng {R : List Int} (h : ∀ x ∈ R, 0 ≤ x ∧ x < 3) {k : Nat} (hk : k ≤ R.length) : -1 ≤ prevE R k ∧ prevE R k ≤ 2 := by
  cases k with
  | zero => show -1 ≤ (-1 : Int) ∧ (-1 : Int) ≤ 2; decide
  | succ j =>
    have hj : j < R.length := by omega
    have := h R[j] (List.getElem_mem hj)
    simp only [prevE, List.getElem?_eq_getElem hj, Option.getD_some]
    omega
theorem row_rng {R : List Int} (h : ∀ x ∈ R, 0 ≤ x ∧ x < 3) {k : Nat} (hk : k < R.length) : 0 ≤ R[k]?.getD 0 ∧ R[k]?.getD 0 < 3 := by
  rw [List.getElem?_eq_getElem hk]
  exact h _ (List.getElem_mem hk)
theorem len_link (R : List Int) (bs : List Bool) (lv : Int) : ∀ k, (linkW R bs lv k).length = fillC.W.length
  | 0 => rfl
  | k + 1 => by rw [linkW, List.length_set, len_link R bs lv k]
theorem next_rng {i l : Int} (h : -1 ≤ i) (h1 : i ≤ 2) (h2 : 0 ≤ l) (h3 : l ≤ 1) : 0 ≤ nextE i l ∧ nextE i l < 34 := by unfold nextE; split <;> omega
section
variable {M : MemSt} {R : List Int} {bs : List Bool} {lv k at_ : Int} {b : Bool}
theorem link_step (hl : M.W.length = 34) (hr : ∀ x ∈ R, 0 ≤ x ∧ x < 3) (h0 : 0 ≤ k) (hk : k < R.length) (l0 : 0 ≤ lv) (l1 : lv ≤ 1) (hW : M.W = linkW R bs lv k.toNat) (ha : at_ = prevE R k.toNat) (hb : b = mkE bs k.toNat) :
    (M.store (nextE at_ lv) (wordE (R[k.toNat]?.getD 0) (5 + k) b)).W = linkW R bs lv (k + 1).toNat := by
  have hp := prev_rng hr (k := k.toNat) (by omega)
  have hx := next_rng hp.1 hp.2 l0 l1
  rw [show (k + 1).toNat = k.toNat + 1 by omega, linkW, if_pos (by omega), show ((k.toNat : Nat) : Int) = k by omega, ← hb, ← ha, ← hW]
  exact store_W hl (by rw [ha]; exact hx.1) (by rw [ha]; exact hx.2) rfl
theorem link_last (hl : M.W.length = 34) (hr : ∀ x ∈ R, 0 ≤ x ∧ x < 3) (hk : k = R.length) (l0 : 0 ≤ lv) (l1 : lv ≤ 1) (hW : M.W = linkW R bs lv k.toNat) (ha : at_ = prevE R k.toNat) (hb : b = mkE bs k.toNat) :
    (M.store (nextE at_ lv) (lastE b)).W = linkW R bs lv (k + 1).toNat := by
  have hp := prev_rng hr (k := k.toNat) (by omega)
  have hx := next_rng hp.1 hp.2 l0 l1
  rw [show (k + 1).toNat = k.toNat + 1 by omega, linkW, if_neg (by omega), ← hb, ← ha, ← hW]
  exact store_W hl (by rw [ha]; exact hx.1) (by rw [ha]; exact hx.2) rfl
end
end Go.Proofs.Ytbmbiiiacajolaa
