/- Passes apart: the plain law. -/
import Derived.Test.YtjohihkbampbgaaGrV
namespace Go.Proofs.Ytjohihkbampbgaa
set_option linter.unusedVariables false
set_option linter.unusedSimpArgs false
set_option linter.unusedSectionVars false
open Go Go.RowKit

/-- what lies in a gate's cell -/
def cellA (W : List Int) (t : Int) : Int := W[(1 + t).toNat]?.getD 0
/-- the memory of two gates, and of a third: their times -/
def wordsA (W : List Int) (a0 a1 : Int) : Prop := W.length = 5 ∧ W[1]?.getD 0 = a0 + 1 ∧ W[2]?.getD 0 = a1 + 1 ∧ -1 ≤ a0 ∧ a0 < 500 ∧ -1 ≤ a1 ∧ a1 < 500
/-- core j ahead of round k, of L numbers: its Pass, what it wants, its steps, the others' passes -/
def apOk (W : List Int) (k L j : Int) (o : Option PassSt) (t a n m q : Int) : Prop :=
  (0 ≤ t ∧ t < 2 ∧ 0 ≤ a ∧ a < 50 ∧ 0 ≤ n ∧ n < 500 ∧ 0 ≤ m ∧ m ≤ k ∧ 0 ≤ q ∧ q ≤ k) ∧
  ∀ P, o = some P → (∃ w, P = ⟨1, 1 + t, a, n, w, 0⟩ ∧ m ≤ 2 * q ∧ k - L ≤ 4 * j + 1) ∨
    (∃ w, P = ⟨2, 1 + t, a, n, w, 0⟩ ∧ 0 ≤ w ∧ w ≤ 500 ∧ soonB w n a = false ∧ (w = cellA W t ∧ m ≤ 2 * q + 1 ∧ k - L ≤ 4 * j + 2 ∨ m + 1 ≤ 2 * q ∧ k - L ≤ 4 * j))
/-- whose round is k? -/
def turnA (k L j : Int) : Prop := k < L ∨ 4 * j ≤ k - L ∧ k - L ≤ 4 * j + 3
theorem ap_P {W : List Int} {k L j t a n m q : Int} {P : PassSt} (h : apOk W k L j (some P) t a n m q) : P.ok := by
  rcases h.2 P rfl with ⟨w, rfl, _⟩ | ⟨w, rfl, _⟩
  · exact .inl ⟨rfl, rfl⟩
  · exact .inr (.inl ⟨rfl, rfl⟩)
theorem ap_none {W : List Int} {k L j t a n m q : Int} {W' : List Int} {o : Option PassSt} {m' q' k' : Int} (h : apOk W k L j o t a n m q) (hm : 0 ≤ m') (hm' : m' ≤ k') (hq : 0 ≤ q') (hq' : q' ≤ k') : apOk W' k' L j none t a n m' q' :=
  ⟨⟨h.1.1, h.1.2.1, h.1.2.2.1, h.1.2.2.2.1, h.1.2.2.2.2.1, h.1.2.2.2.2.2.1, hm, hm', hq, hq'⟩, fun P e => by cases e⟩
theorem ap_other {W W' : List Int} {k L j i t a n m q q' : Int} {o : Option PassSt} (h : apOk W k L i o t a n m q) (hk : turnA k L j) (hij : i ≠ j) (hj : 0 ≤ i)
    (hq : q' = q ∧ W' = W ∨ q' = q + 1) : apOk W' (k + 1) L i o t a n m q' := by
  obtain ⟨⟨h1, h2, h3, h4, h5, h6, h7, h8, h9, h10⟩, hP⟩ := h
  refine ⟨⟨h1, h2, h3, h4, h5, h6, h7, by omega, by omega, by omega⟩, fun P e => ?_⟩
  unfold turnA at hk
  rcases hP P e with ⟨w, rfl, a1, a2⟩ | ⟨w, rfl, a1, a2, a3, a4⟩
  · exact .inl ⟨w, rfl, by omega, by omega⟩
  · refine .inr ⟨w, rfl, a1, a2, a3, ?_⟩
    rcases a4 with ⟨b1, b2, b3⟩ | ⟨b1, b2⟩
    · rcases hq with ⟨rfl, rfl⟩ | rfl
      · exact .inl ⟨b1, by omega, by omega⟩
      · exact .inr ⟨by omega, by omega⟩
    · exact .inr ⟨by omega, by omega⟩
theorem ap_end {W : List Int} {k L j t a n m q : Int} {o : Option PassSt} (h : apOk W k L j o t a n m q) (hk : L + 12 ≤ k) (hj : j < 3) : o = none := by
  cases o with
  | none => rfl
  | some P =>
    exfalso
    rcases h.2 P rfl with ⟨w, _, _, a2⟩ | ⟨w, _, _, _, _, ⟨_, _, b⟩ | ⟨_, b⟩⟩ <;> omega
/-- what a Pass's step does -/
inductive StA (W : List Int) (k L j t a n m q : Int) (P P' : PassSt) (M M' : MemSt) (a0 a1 b0 b1 : Int) : Prop
  | soon (h : P' = ⟨9, 1 + t, a, n, cellA W t, 13⟩) (hW : M'.W = W) (h0 : b0 = a0) (h1 : b1 = a1) (hs : soonB (cellA W t) n a = true)
  | look (h : P' = ⟨2, 1 + t, a, n, cellA W t, 0⟩) (hW : M'.W = W) (h0 : b0 = a0) (h1 : b1 = a1) (hn : apOk W (k + 1) L j (some P') t a n (m + 1) q)
  | held (w : Int) (h : P' = ⟨9, 1 + t, a, n, w, 0⟩) (h0 : t = 0 ∧ b0 = n ∧ b1 = a1 ∨ t = 1 ∧ b0 = a0 ∧ b1 = n) (hs : soonB (cellA W t) n a = false)
  | fail (w : Int) (h : P' = ⟨1, 1 + t, a, n, w, 0⟩) (hW : M'.W = W) (h0 : b0 = a0) (h1 : b1 = a1) (hn : apOk W (k + 1) L j (some P') t a n (m + 1) q)
theorem cell_eq {W : List Int} {a0 a1 t : Int} (h : wordsA W a0 a1) (h0 : 0 ≤ t) (h1 : t < 2) : t = 0 ∧ cellA W t = a0 + 1 ∨ t = 1 ∧ cellA W t = a1 + 1 := by
  by_cases ht : t = 0
  · subst ht; exact .inl ⟨rfl, by simpa [cellA] using h.2.1⟩
  · obtain rfl : t = 1 := by omega
    exact .inr ⟨rfl, by simpa [cellA] using h.2.2.1⟩
theorem cas_fail {M : MemSt} {at_ x y : Int} (h : 0 ≤ at_) (h' : at_ < M.W.length) (hx : M.W[at_.toNat]?.getD 0 ≠ x) : (M.cas at_ x y).h = false ∧ (M.cas at_ x y).W = M.W := by
  have e : M.is at_ = true := by simp [MemSt.is]; omega
  have e2 : M.word at_ ≠ x := by simpa [MemSt.word, List.getD] using hx
  have e3 : M.cas at_ x y = M.acc 3 at_ (M.word at_) false := by unfold MemSt.cas; rw [if_neg e2]
  have e4 : M.W.set at_.toNat (M.word at_) = M.W := by
    have := load_W (M := M) (at_ := at_)
    simp only [MemSt.load, MemSt.acc, e, if_true] at this
    exact this
  rw [e3]
  simp only [MemSt.acc, e, if_true, true_and]
  exact e4
theorem ap_step {M : MemSt} {k L j t a n m q a0 a1 : Int} {P : PassSt} (h : apOk M.W k L j (some P) t a n m q) (hw : wordsA M.W a0 a1) (hk : turnA k L j) :
    ∃ b0 b1, wordsA (stepP P M).2.W b0 b1 ∧ StA M.W k L j t a n m q P (stepP P M).1 M (stepP P M).2 a0 a1 b0 b1 := by
  have hh := h
  obtain ⟨⟨h1, h2, h3, h4, h5, h6, h7, h8, h9, h10⟩, hP⟩ := h
  have hc := cell_eq hw h1 h2
  have hlen := hw.1
  have hcr : 0 ≤ cellA M.W t ∧ cellA M.W t ≤ 500 := by obtain ⟨_, _, _, c1, c2, c3, c4⟩ := hw; omega
  rcases hP P rfl with ⟨w, rfl, e1, e2⟩ | ⟨w, rfl, e1, e2, e3, e4⟩
  · have hn : (M.load (1 + t)).n = cellA M.W t := load_n (by omega) (by omega)
    have hW : (M.load (1 + t)).W = M.W := load_W
    cases hso : soonB (cellA M.W t) n a
    · have hst : stepP ⟨1, 1 + t, a, n, w, 0⟩ M = (⟨2, 1 + t, a, n, cellA M.W t, 0⟩, M.load (1 + t)) := by simp [stepP, hn, hso]
      rw [hst]
      refine ⟨a0, a1, by simpa only [hW] using hw, .look rfl hW rfl rfl ⟨⟨h1, h2, h3, h4, h5, h6, by omega, by omega, by omega, by omega⟩, fun Q e => ?_⟩⟩
      injection e with e
      exact .inr ⟨_, e.symm, hcr.1, hcr.2, hso, .inl ⟨rfl, by omega, by omega⟩⟩
    · have hst : stepP ⟨1, 1 + t, a, n, w, 0⟩ M = (⟨9, 1 + t, a, n, cellA M.W t, 13⟩, M.load (1 + t)) := by simp [stepP, hn, hso]
      rw [hst]
      exact ⟨a0, a1, by simpa only [hW] using hw, .soon rfl hW rfl rfl hso⟩
  · have hun : IntKind.u64.wrap (n + 1) = n + 1 := wrap_u64 (by omega) (by omega)
    by_cases hcw : cellA M.W t = w
    · have hc2 := cas_held (M := M) (at_ := 1 + t) (x := w) (y := n + 1) (by omega) (by omega) hcw
      have hst : stepP ⟨2, 1 + t, a, n, w, 0⟩ M = (⟨9, 1 + t, a, n, w, 0⟩, M.cas (1 + t) w (n + 1)) := by simp [stepP, hun, hc2.1]
      rw [hst]
      simp only [hc2.2]
      obtain ⟨w1, w2, w3, w4, w5, w6, w7⟩ := hw
      rcases hc with ⟨rfl, hc⟩ | ⟨rfl, hc⟩
      · refine ⟨n, a1, ⟨by simpa using hlen, by simp [hlen], by simpa using w3, by omega, h6, w6, w7⟩, .held w rfl (.inl ⟨rfl, rfl, rfl⟩) (by rw [hcw]; exact e3)⟩
      · refine ⟨a0, n, ⟨by simpa using hlen, by simpa using w2, by simp [hlen], w4, w5, by omega, h6⟩, .held w rfl (.inr ⟨rfl, rfl, rfl⟩) (by rw [hcw]; exact e3)⟩
    · have hc2 := cas_fail (M := M) (at_ := 1 + t) (x := w) (y := n + 1) (by omega) (by omega) hcw
      have hst : stepP ⟨2, 1 + t, a, n, w, 0⟩ M = (⟨1, 1 + t, a, n, w, 0⟩, M.cas (1 + t) w (n + 1)) := by simp [stepP, hun, hc2.1]
      rw [hst]
      refine ⟨a0, a1, by simpa only [hc2.2] using hw, .fail w rfl hc2.2 rfl rfl ⟨⟨h1, h2, h3, h4, h5, h6, by omega, by omega, by omega, by omega⟩, fun Q e => ?_⟩⟩
      injection e with e
      exact .inl ⟨_, e.symm, by omega, by omega⟩
theorem ap_begin {W : List Int} {k L j t a n : Int} (h : 0 ≤ t) (h1 : t < 2) (h2 : 0 ≤ a) (h3 : a < 50) (h4 : 0 ≤ n) (h5 : n < 500) (h6 : 0 ≤ k) (h7 : k < L) (h8 : 0 ≤ j) : apOk W k L j (some (newP 1 3 t a n)) t a n 0 0 := by
  refine ⟨⟨h, h1, h2, h3, h4, h5, by omega, by omega, by omega, by omega⟩, fun P e => ?_⟩
  injection e with e
  rw [newP_ok h h1 h2 h3 h4 h5] at e
  exact .inl ⟨0, e.symm, by omega, by omega⟩
theorem soonA {W : List Int} {a0 a1 t n a : Int} (hw : wordsA W a0 a1) (h1 : 0 ≤ t) (h2 : t < 2) (h3 : 0 ≤ a) (h4 : a < 50) (h5 : 0 ≤ n) (h6 : n < 500) :
    soonB (cellA W t) n a = true ↔ (t = 0 ∧ 0 ≤ a0 ∧ (n < a0 ∨ n - a0 < a) ∨ t = 1 ∧ 0 ≤ a1 ∧ (n < a1 ∨ n - a1 < a)) := by
  obtain ⟨w1, w2, w3, w4, w5, w6, w7⟩ := hw
  rcases cell_eq ⟨w1, w2, w3, w4, w5, w6, w7⟩ h1 h2 with ⟨rfl, hc⟩ | ⟨rfl, hc⟩
  · rw [hc, soon_iff w4 w5 h5 h6 h3 h4]; omega
  · rw [hc, soon_iff w6 w7 h5 h6 h3 h4]; omega
theorem last0 {M : MemSt} {a0 a1 : Int} (h : wordsA M.W a0 a1) : (gLast M 1 3 0).getD (-1) = a0 := gLast_val h.1 (by omega) (by omega) (by simpa using h.2.1) h.2.2.2.1 h.2.2.2.2.1
theorem last1 {M : MemSt} {a0 a1 : Int} (h : wordsA M.W a0 a1) : (gLast M 1 3 1).getD (-1) = a1 := gLast_val h.1 (by omega) (by omega) (by simpa using h.2.2.1) h.2.2.2.2.2.1 h.2.2.2.2.2.2
end Go.Proofs.Ytjohihkbampbgaa
