/- Texts of this proof. -/
import Derived.Test.YtdldcofddfkkbaaGreatB7O
namespace Go.Proofs.YtdldcofddfkkbaaGreat
set_option linter.unusedVariables false
set_option linter.unusedSimpArgs false
set_option linter.unusedSectionVars false
open Go Go.RowKit
section
variable {a0 a1 a2 a3 a4 a5 a6 a7 a8 a9 a10 a11 a12 ref key i high lv w r e : Int} {F : FindSt} {Rr : RetSt} {M : MemSt} {is : Bool}
theorem ist_1y (h0 : (F.step M).1.line = 9) : InsSt.step ⟨[a0, a1, a2, a3, a4, a5, a6, a7, a8, a9, a10, a11, a12], ref, key, i, high, 1, lv, w, F, Rr, r, is, e⟩ M = (⟨[a0, a1, a2, a3, a4, a5, a6, a7, a8, a9, a10, a11, a12], ref, key, i, high, 2, 0, 0, (F.step M).1, R0, (F.step M).1.r, false, 0⟩, (F.step M).2) := by
 show (if (F.step M).1.line = 9 then _ else _, _) = _
 rw [if_pos h0]; rfl
theorem ist_1n (h0 : ¬ (F.step M).1.line = 9) : InsSt.step ⟨[a0, a1, a2, a3, a4, a5, a6, a7, a8, a9, a10, a11, a12], ref, key, i, high, 1, lv, w, F, Rr, r, is, e⟩ M = (⟨[a0, a1, a2, a3, a4, a5, a6, a7, a8, a9, a10, a11, a12], ref, key, i, high, 1, 0, 0, (F.step M).1, R0, (F.step M).1.r, false, 0⟩, (F.step M).2) := by
 show (if (F.step M).1.line = 9 then _ else _, _) = _
 rw [if_neg h0]; rfl
theorem ist_2y (h0 : lv + 1 < high) : InsSt.step ⟨[a0, a1, a2, a3, a4, a5, a6, a7, a8, a9, a10, a11, a12], ref, key, i, high, 2, lv, w, F, Rr, r, is, e⟩ M = (⟨[a0, a1, a2, a3, a4, a5, a6, a7, a8, a9, a10, a11, a12], ref, key, i, high, 2, (lv + 1), 0, F, R0, ref, false, 0⟩, (M.store (nextT a0 a1 a2 a5 i lv) (F.S[lv.toNat]?.getD 0))) := by
 show (if lv + 1 < high then _ else _, _) = _
 rw [if_pos h0]; rfl
theorem ist_2n (h0 : ¬ lv + 1 < high) : InsSt.step ⟨[a0, a1, a2, a3, a4, a5, a6, a7, a8, a9, a10, a11, a12], ref, key, i, high, 2, lv, w, F, Rr, r, is, e⟩ M = (⟨[a0, a1, a2, a3, a4, a5, a6, a7, a8, a9, a10, a11, a12], ref, key, i, high, 3, 0, 0, F, R0, ref, false, 0⟩, (M.store (nextT a0 a1 a2 a5 i lv) (F.S[lv.toNat]?.getD 0))) := by
 show (if lv + 1 < high then _ else _, _) = _
 rw [if_neg h0]; rfl
theorem ist_3a (h0 : (M.cas (nextT a0 a1 a2 a5 (F.P[lv.toNat]?.getD 0) lv) (F.S[lv.toNat]?.getD 0) ref).h = true) (h1 : high ≤ 1) : InsSt.step ⟨[a0, a1, a2, a3, a4, a5, a6, a7, a8, a9, a10, a11, a12], ref, key, i, high, 3, lv, w, F, Rr, r, is, e⟩ M = (⟨[a0, a1, a2, a3, a4, a5, a6, a7, a8, a9, a10, a11, a12], ref, key, i, high, 9, 0, 0, F0, R0, (F.K[lv.toNat]?.getD 0), true, 0⟩, (M.cas (nextT a0 a1 a2 a5 (F.P[lv.toNat]?.getD 0) lv) (F.S[lv.toNat]?.getD 0) ref)) := by
 show (if (M.cas (nextT a0 a1 a2 a5 (F.P[lv.toNat]?.getD 0) lv) (F.S[lv.toNat]?.getD 0) ref).h = true then (if high ≤ 1 then _ else _) else _, _) = _
 rw [if_pos h0, if_pos h1]; rfl
theorem ist_3b (h0 : (M.cas (nextT a0 a1 a2 a5 (F.P[lv.toNat]?.getD 0) lv) (F.S[lv.toNat]?.getD 0) ref).h = true) (h1 : ¬ high ≤ 1) : InsSt.step ⟨[a0, a1, a2, a3, a4, a5, a6, a7, a8, a9, a10, a11, a12], ref, key, i, high, 3, lv, w, F, Rr, r, is, e⟩ M = (⟨[a0, a1, a2, a3, a4, a5, a6, a7, a8, a9, a10, a11, a12], ref, key, i, high, 4, 1, 0, F, R0, (F.K[lv.toNat]?.getD 0), true, 0⟩, (M.cas (nextT a0 a1 a2 a5 (F.P[lv.toNat]?.getD 0) lv) (F.S[lv.toNat]?.getD 0) ref)) := by
 show (if (M.cas (nextT a0 a1 a2 a5 (F.P[lv.toNat]?.getD 0) lv) (F.S[lv.toNat]?.getD 0) ref).h = true then (if high ≤ 1 then _ else _) else _, _) = _
 rw [if_pos h0, if_neg h1]; rfl
theorem ist_3n (h0 : ¬ (M.cas (nextT a0 a1 a2 a5 (F.P[lv.toNat]?.getD 0) lv) (F.S[lv.toNat]?.getD 0) ref).h = true) : InsSt.step ⟨[a0, a1, a2, a3, a4, a5, a6, a7, a8, a9, a10, a11, a12], ref, key, i, high, 3, lv, w, F, Rr, r, is, e⟩ M = (⟨[a0, a1, a2, a3, a4, a5, a6, a7, a8, a9, a10, a11, a12], ref, key, i, high, 1, 0, 0, (FindSt.new [a0, a1, a2, a3, a4, a5, a6, a7, a8, a9, a10, a11, a12] key a2), R0, (F.K[lv.toNat]?.getD 0), false, 0⟩, (M.cas (nextT a0 a1 a2 a5 (F.P[lv.toNat]?.getD 0) lv) (F.S[lv.toNat]?.getD 0) ref)) := by
 show (if (M.cas (nextT a0 a1 a2 a5 (F.P[lv.toNat]?.getD 0) lv) (F.S[lv.toNat]?.getD 0) ref).h = true then _ else _, _) = _
 rw [if_neg h0]; rfl
theorem ist_4m (h0 : 9223372036854775808 ≤ (M.load (nextT a0 a1 a2 a5 i lv)).n) : InsSt.step ⟨[a0, a1, a2, a3, a4, a5, a6, a7, a8, a9, a10, a11, a12], ref, key, i, high, 4, lv, w, F, Rr, r, is, e⟩ M = (⟨[a0, a1, a2, a3, a4, a5, a6, a7, a8, a9, a10, a11, a12], ref, key, i, high, 9, 0, 0, F0, R0, ref, true, 0⟩, (M.load (nextT a0 a1 a2 a5 i lv))) := by
 show (if 9223372036854775808 ≤ (M.load (nextT a0 a1 a2 a5 i lv)).n then _ else _, _) = _
 rw [if_pos h0]; rfl
theorem ist_4e (h0 : ¬ 9223372036854775808 ≤ (M.load (nextT a0 a1 a2 a5 i lv)).n) (h1 : (M.load (nextT a0 a1 a2 a5 i lv)).n = (F.S[lv.toNat]?.getD 0)) : InsSt.step ⟨[a0, a1, a2, a3, a4, a5, a6, a7, a8, a9, a10, a11, a12], ref, key, i, high, 4, lv, w, F, Rr, r, is, e⟩ M = (⟨[a0, a1, a2, a3, a4, a5, a6, a7, a8, a9, a10, a11, a12], ref, key, i, high, 6, lv, 0, F, R0, ref, true, 0⟩, (M.load (nextT a0 a1 a2 a5 i lv))) := by
 show (if 9223372036854775808 ≤ (M.load (nextT a0 a1 a2 a5 i lv)).n then _ else (if (M.load (nextT a0 a1 a2 a5 i lv)).n = (F.S[lv.toNat]?.getD 0) then _ else _), _) = _
 rw [if_neg h0, if_pos h1]; rfl
theorem ist_4d (h0 : ¬ 9223372036854775808 ≤ (M.load (nextT a0 a1 a2 a5 i lv)).n) (h1 : ¬ (M.load (nextT a0 a1 a2 a5 i lv)).n = (F.S[lv.toNat]?.getD 0)) : InsSt.step ⟨[a0, a1, a2, a3, a4, a5, a6, a7, a8, a9, a10, a11, a12], ref, key, i, high, 4, lv, w, F, Rr, r, is, e⟩ M = (⟨[a0, a1, a2, a3, a4, a5, a6, a7, a8, a9, a10, a11, a12], ref, key, i, high, 5, lv, (M.load (nextT a0 a1 a2 a5 i lv)).n, F, R0, ref, true, 0⟩, (M.load (nextT a0 a1 a2 a5 i lv))) := by
 show (if 9223372036854775808 ≤ (M.load (nextT a0 a1 a2 a5 i lv)).n then _ else (if (M.load (nextT a0 a1 a2 a5 i lv)).n = (F.S[lv.toNat]?.getD 0) then _ else _), _) = _
 rw [if_neg h0, if_neg h1]; rfl
theorem ist_5y (h0 : (M.cas (nextT a0 a1 a2 a5 i lv) w (F.S[lv.toNat]?.getD 0)).h = true) : InsSt.step ⟨[a0, a1, a2, a3, a4, a5, a6, a7, a8, a9, a10, a11, a12], ref, key, i, high, 5, lv, w, F, Rr, r, is, e⟩ M = (⟨[a0, a1, a2, a3, a4, a5, a6, a7, a8, a9, a10, a11, a12], ref, key, i, high, 6, lv, 0, F, R0, ref, true, 0⟩, (M.cas (nextT a0 a1 a2 a5 i lv) w (F.S[lv.toNat]?.getD 0))) := by
 show (if (M.cas (nextT a0 a1 a2 a5 i lv) w (F.S[lv.toNat]?.getD 0)).h = true then _ else _, _) = _
 rw [if_pos h0]; rfl
theorem ist_5n (h0 : ¬ (M.cas (nextT a0 a1 a2 a5 i lv) w (F.S[lv.toNat]?.getD 0)).h = true) : InsSt.step ⟨[a0, a1, a2, a3, a4, a5, a6, a7, a8, a9, a10, a11, a12], ref, key, i, high, 5, lv, w, F, Rr, r, is, e⟩ M = (⟨[a0, a1, a2, a3, a4, a5, a6, a7, a8, a9, a10, a11, a12], ref, key, i, high, 9, 0, 0, F0, R0, ref, true, 0⟩, (M.cas (nextT a0 a1 a2 a5 i lv) w (F.S[lv.toNat]?.getD 0))) := by
 show (if (M.cas (nextT a0 a1 a2 a5 i lv) w (F.S[lv.toNat]?.getD 0)).h = true then _ else _, _) = _
 rw [if_neg h0]; rfl
theorem ist_6a (h0 : (M.cas (nextT a0 a1 a2 a5 (F.P[lv.toNat]?.getD 0) lv) (F.S[lv.toNat]?.getD 0) ref).h = true) (h1 : high ≤ lv + 1) : InsSt.step ⟨[a0, a1, a2, a3, a4, a5, a6, a7, a8, a9, a10, a11, a12], ref, key, i, high, 6, lv, w, F, Rr, r, is, e⟩ M = (⟨[a0, a1, a2, a3, a4, a5, a6, a7, a8, a9, a10, a11, a12], ref, key, i, high, 9, 0, 0, F0, R0, (F.K[lv.toNat]?.getD 0), true, 0⟩, (M.cas (nextT a0 a1 a2 a5 (F.P[lv.toNat]?.getD 0) lv) (F.S[lv.toNat]?.getD 0) ref)) := by
 show (if (M.cas (nextT a0 a1 a2 a5 (F.P[lv.toNat]?.getD 0) lv) (F.S[lv.toNat]?.getD 0) ref).h = true then (if high ≤ lv + 1 then _ else _) else _, _) = _
 rw [if_pos h0, if_pos h1]; rfl
theorem ist_6b (h0 : (M.cas (nextT a0 a1 a2 a5 (F.P[lv.toNat]?.getD 0) lv) (F.S[lv.toNat]?.getD 0) ref).h = true) (h1 : ¬ high ≤ lv + 1) : InsSt.step ⟨[a0, a1, a2, a3, a4, a5, a6, a7, a8, a9, a10, a11, a12], ref, key, i, high, 6, lv, w, F, Rr, r, is, e⟩ M = (⟨[a0, a1, a2, a3, a4, a5, a6, a7, a8, a9, a10, a11, a12], ref, key, i, high, 4, (lv + 1), 0, F, R0, (F.K[lv.toNat]?.getD 0), true, 0⟩, (M.cas (nextT a0 a1 a2 a5 (F.P[lv.toNat]?.getD 0) lv) (F.S[lv.toNat]?.getD 0) ref)) := by
 show (if (M.cas (nextT a0 a1 a2 a5 (F.P[lv.toNat]?.getD 0) lv) (F.S[lv.toNat]?.getD 0) ref).h = true then (if high ≤ lv + 1 then _ else _) else _, _) = _
 rw [if_pos h0, if_neg h1]; rfl
theorem ist_6n (h0 : ¬ (M.cas (nextT a0 a1 a2 a5 (F.P[lv.toNat]?.getD 0) lv) (F.S[lv.toNat]?.getD 0) ref).h = true) : InsSt.step ⟨[a0, a1, a2, a3, a4, a5, a6, a7, a8, a9, a10, a11, a12], ref, key, i, high, 6, lv, w, F, Rr, r, is, e⟩ M = (⟨[a0, a1, a2, a3, a4, a5, a6, a7, a8, a9, a10, a11, a12], ref, key, i, high, 7, lv, 0, (FindSt.new [a0, a1, a2, a3, a4, a5, a6, a7, a8, a9, a10, a11, a12] key a2), R0, (F.K[lv.toNat]?.getD 0), true, 0⟩, (M.cas (nextT a0 a1 a2 a5 (F.P[lv.toNat]?.getD 0) lv) (F.S[lv.toNat]?.getD 0) ref)) := by
 show (if (M.cas (nextT a0 a1 a2 a5 (F.P[lv.toNat]?.getD 0) lv) (F.S[lv.toNat]?.getD 0) ref).h = true then _ else _, _) = _
 rw [if_neg h0]; rfl
theorem ist_7y (h0 : (F.step M).1.line = 9) : InsSt.step ⟨[a0, a1, a2, a3, a4, a5, a6, a7, a8, a9, a10, a11, a12], ref, key, i, high, 7, lv, w, F, Rr, r, is, e⟩ M = (⟨[a0, a1, a2, a3, a4, a5, a6, a7, a8, a9, a10, a11, a12], ref, key, i, high, 8, lv, 0, (F.step M).1, R0, (F.step M).1.r, true, 0⟩, (F.step M).2) := by
 show (if (F.step M).1.line = 9 then _ else _, _) = _
 rw [if_pos h0]; rfl
theorem ist_7n (h0 : ¬ (F.step M).1.line = 9) : InsSt.step ⟨[a0, a1, a2, a3, a4, a5, a6, a7, a8, a9, a10, a11, a12], ref, key, i, high, 7, lv, w, F, Rr, r, is, e⟩ M = (⟨[a0, a1, a2, a3, a4, a5, a6, a7, a8, a9, a10, a11, a12], ref, key, i, high, 7, lv, 0, (F.step M).1, R0, (F.step M).1.r, true, 0⟩, (F.step M).2) := by
 show (if (F.step M).1.line = 9 then _ else _, _) = _
 rw [if_neg h0]; rfl
theorem ist_8y (h0 : 9223372036854775808 ≤ (M.load (nextT a0 a1 a2 a5 i 0)).n) : InsSt.step ⟨[a0, a1, a2, a3, a4, a5, a6, a7, a8, a9, a10, a11, a12], ref, key, i, high, 8, lv, w, F, Rr, r, is, e⟩ M = (⟨[a0, a1, a2, a3, a4, a5, a6, a7, a8, a9, a10, a11, a12], ref, key, i, high, 10, 0, 0, (FindSt.new [a0, a1, a2, a3, a4, a5, a6, a7, a8, a9, a10, a11, a12] key a2), R0, ref, true, 0⟩, (M.load (nextT a0 a1 a2 a5 i 0))) := by
 show (if 9223372036854775808 ≤ (M.load (nextT a0 a1 a2 a5 i 0)).n then _ else _, _) = _
 rw [if_pos h0]; rfl
theorem ist_8n (h0 : ¬ 9223372036854775808 ≤ (M.load (nextT a0 a1 a2 a5 i 0)).n) : InsSt.step ⟨[a0, a1, a2, a3, a4, a5, a6, a7, a8, a9, a10, a11, a12], ref, key, i, high, 8, lv, w, F, Rr, r, is, e⟩ M = (⟨[a0, a1, a2, a3, a4, a5, a6, a7, a8, a9, a10, a11, a12], ref, key, i, high, 4, lv, 0, F, R0, ref, true, 0⟩, (M.load (nextT a0 a1 a2 a5 i 0))) := by
 show (if 9223372036854775808 ≤ (M.load (nextT a0 a1 a2 a5 i 0)).n then _ else _, _) = _
 rw [if_neg h0]; rfl
theorem ist_9y (h0 : 9223372036854775808 ≤ (M.load (nextT a0 a1 a2 a5 i 0)).n) : InsSt.step ⟨[a0, a1, a2, a3, a4, a5, a6, a7, a8, a9, a10, a11, a12], ref, key, i, high, 9, lv, w, F, Rr, r, is, e⟩ M = (⟨[a0, a1, a2, a3, a4, a5, a6, a7, a8, a9, a10, a11, a12], ref, key, i, high, 10, 0, 0, (FindSt.new [a0, a1, a2, a3, a4, a5, a6, a7, a8, a9, a10, a11, a12] key a2), R0, ref, true, 0⟩, (M.load (nextT a0 a1 a2 a5 i 0))) := by
 show (if 9223372036854775808 ≤ (M.load (nextT a0 a1 a2 a5 i 0)).n then _ else _, _) = _
 rw [if_pos h0]; rfl
theorem ist_9n (h0 : ¬ 9223372036854775808 ≤ (M.load (nextT a0 a1 a2 a5 i 0)).n) : InsSt.step ⟨[a0, a1, a2, a3, a4, a5, a6, a7, a8, a9, a10, a11, a12], ref, key, i, high, 9, lv, w, F, Rr, r, is, e⟩ M = (⟨[a0, a1, a2, a3, a4, a5, a6, a7, a8, a9, a10, a11, a12], ref, key, i, high, 11, 0, 0, F0, R0, ref, true, 0⟩, (M.load (nextT a0 a1 a2 a5 i 0))) := by
 show (if 9223372036854775808 ≤ (M.load (nextT a0 a1 a2 a5 i 0)).n then _ else _, _) = _
 rw [if_neg h0]; rfl
theorem ist_10y (h0 : (F.step M).1.line = 9) : InsSt.step ⟨[a0, a1, a2, a3, a4, a5, a6, a7, a8, a9, a10, a11, a12], ref, key, i, high, 10, lv, w, F, Rr, r, is, e⟩ M = (⟨[a0, a1, a2, a3, a4, a5, a6, a7, a8, a9, a10, a11, a12], ref, key, i, high, 11, 0, 0, F0, R0, (F.step M).1.r, true, 0⟩, (F.step M).2) := by
 show (if (F.step M).1.line = 9 then _ else _, _) = _
 rw [if_pos h0]; rfl
theorem ist_10n (h0 : ¬ (F.step M).1.line = 9) : InsSt.step ⟨[a0, a1, a2, a3, a4, a5, a6, a7, a8, a9, a10, a11, a12], ref, key, i, high, 10, lv, w, F, Rr, r, is, e⟩ M = (⟨[a0, a1, a2, a3, a4, a5, a6, a7, a8, a9, a10, a11, a12], ref, key, i, high, 10, 0, 0, (F.step M).1, R0, (F.step M).1.r, true, 0⟩, (F.step M).2) := by
 show (if (F.step M).1.line = 9 then _ else _, _) = _
 rw [if_neg h0]; rfl
theorem ist_11y (h0 : (M.add (atT a0 a1 a2 a5 i 3) 18446744073709551615).n = 0) : InsSt.step ⟨[a0, a1, a2, a3, a4, a5, a6, a7, a8, a9, a10, a11, a12], ref, key, i, high, 11, lv, w, F, Rr, r, is, e⟩ M = (⟨[a0, a1, a2, a3, a4, a5, a6, a7, a8, a9, a10, a11, a12], ref, key, i, high, 12, 0, 0, F0, (.new [a3, a4, a5, a6, a7, a8, a9, a10, a11, a12] a5 i), ref, true, 0⟩, (M.add (atT a0 a1 a2 a5 i 3) 18446744073709551615)) := by
 show (if (M.add (atT a0 a1 a2 a5 i 3) 18446744073709551615).n = 0 then _ else _, _) = _
 rw [if_pos h0]; rfl
theorem ist_11n (h0 : ¬ (M.add (atT a0 a1 a2 a5 i 3) 18446744073709551615).n = 0) : InsSt.step ⟨[a0, a1, a2, a3, a4, a5, a6, a7, a8, a9, a10, a11, a12], ref, key, i, high, 11, lv, w, F, Rr, r, is, e⟩ M = (⟨[], 0, 0, 0, 0, 0, 0, 0, F0, R0, ref, true, 0⟩, (M.add (atT a0 a1 a2 a5 i 3) 18446744073709551615)) := by
 show (if (M.add (atT a0 a1 a2 a5 i 3) 18446744073709551615).n = 0 then _ else _, _) = _
 rw [if_neg h0]; rfl
theorem ist_12y (h0 : (Rr.step M).1.line = 9) : InsSt.step ⟨[a0, a1, a2, a3, a4, a5, a6, a7, a8, a9, a10, a11, a12], ref, key, i, high, 12, lv, w, F, Rr, r, is, e⟩ M = (⟨[], 0, 0, 0, 0, 0, 0, 0, F0, R0, 0, true, 0⟩, (Rr.step M).2) := by
 show (if (Rr.step M).1.line = 9 then _ else _, _) = _
 rw [if_pos h0]; rfl
theorem ist_12n (h0 : ¬ (Rr.step M).1.line = 9) : InsSt.step ⟨[a0, a1, a2, a3, a4, a5, a6, a7, a8, a9, a10, a11, a12], ref, key, i, high, 12, lv, w, F, Rr, r, is, e⟩ M = (⟨[a0, a1, a2, a3, a4, a5, a6, a7, a8, a9, a10, a11, a12], ref, key, i, high, 12, 0, 0, F0, (Rr.step M).1, 0, true, 0⟩, (Rr.step M).2) := by
 show (if (Rr.step M).1.line = 9 then _ else _, _) = _
 rw [if_neg h0]; rfl
end
theorem okI_T {n h w s i g : Int} (hk : okI n h w s i g) : okT n h w s = true := decide_eq_true hk.1
theorem new_shape {t : List Int} {k h : Int} (h0 : 0 ≤ h) : (FindSt.new t k h).shape h := by
 have e : ((List.replicate h.toNat (0 : Int)).length : Int) = h := by rw [List.length_replicate]; omega
 exact ⟨e, e, e⟩
theorem done_shape {F : FindSt} {r h : Int} (hF : F.shape h) : (F.done r).shape h := by
 obtain ⟨h1, h2, h3⟩ := hF
 unfold FindSt.done
 split <;> exact ⟨by rw [List.length_set]; exact h1, by rw [List.length_set]; exact h2, by rw [List.length_set]; exact h3⟩
theorem looks_shape {F : FindSt} {r h : Int} (hF : F.shape h) : (F.looks r).shape h := by
 unfold FindSt.looks
 split
 · exact done_shape hF
 · exact hF
theorem step_shape {F : FindSt} {M : MemSt} {h : Int} (hF : F.shape h) : (F.step M).1.shape h := by
 have ha : ∀ r, (F.anew r).shape h := fun r => hF
 unfold FindSt.step
 split
 · show FindSt.shape (if _ then _ else _) h
   split
   · exact ha _
   · exact looks_shape hF
 · split
   · exact hF
   · split
     · show FindSt.shape (if _ then _ else _) h
       split
       · exact looks_shape hF
       · exact ha _
     · split
       · show FindSt.shape (if _ then _ else _) h
         split
         · exact looks_shape hF
         · exact done_shape hF
       · exact hF
theorem rowF_e (g : FindSt → List Int) (c : List Int) (F : FindSt) : rowF g c [.u (.find F)] = [.u (.find F), .l (F.told (g F) ++ c), .i (F.told (g F)).length, .i (((F.told (g F)).length + c.length : Nat) : Int)] := rfl
theorem rowQ_e (g : FindSt → List Int) (c : List Int) (F : FindSt) : rowQ g c [.u (.rfind F)] = [.u (.rfind F), .l (F.told (g F) ++ c), .i (F.told (g F)).length, .i (((F.told (g F)).length + c.length : Nat) : Int)] := rfl
theorem told_9 {F : FindSt} (h : F.line = 9) (L : List Int) : F.told L = L := if_pos h
theorem nth_app {L : List Int} {h lv : Int} (h1 : (L.length : Int) = h) (h2 : 0 ≤ lv) (h3 : lv < h) (c : List Int) : (L ++ c)[lv.toNat]?.getD 0 = L[lv.toNat]?.getD 0 := by rw [List.getElem?_append_left (by omega)]
theorem inew_5 {t : List Int} {r k g n h a s : Int} (e : okT n h a s = true) (e1 : refOk r = false) : InsSt.new t r k g n h a s = ⟨[], 0, 0, 0, 0, 0, 0, 0, F0, R0, 0, false, 5⟩ := by
 have : refusedI n h a s r g = 5 := by unfold refusedI; rw [e, if_neg (by decide), if_pos e1]
 unfold InsSt.new; rw [this, if_neg (by decide)]
theorem inew_3 {t : List Int} {r k g n h a s : Int} (e : okT n h a s = true) (e1 : refOk r = true) (c : r % 65536 - 1 < 0 ∨ r / 9223372036854775808 = 1 ∨ s ≤ r % 65536 - 1 ∨ g < 1 ∨ a < g) : InsSt.new t r k g n h a s = ⟨[], 0, 0, 0, 0, 0, 0, 0, F0, R0, 0, false, 3⟩ := by
 have : refusedI n h a s r g = 3 := by unfold refusedI; rw [e, e1, if_neg (by decide), if_neg (by decide), if_pos c]
 unfold InsSt.new; rw [this, if_neg (by decide)]
theorem inew_0 {t : List Int} {r k g n h a s : Int} (e : okT n h a s = true) (e1 : refOk r = true) (c : ¬ (r % 65536 - 1 < 0 ∨ r / 9223372036854775808 = 1 ∨ s ≤ r % 65536 - 1 ∨ g < 1 ∨ a < g)) : InsSt.new t r k g n h a s = ⟨t, r, k, idxW s r, g, 1, 0, 0, .new t k a, R0, 0, false, 0⟩ := by
 have : refusedI n h a s r g = 0 := by unfold refusedI; rw [e, e1, if_neg (by decide), if_neg (by decide), if_neg c]
 unfold InsSt.new; rw [if_pos this]
theorem idx_eq {s r : Int} (c : ¬ s ≤ r % 65536 - 1) : idxW s r = r % 65536 - 1 := by unfold idxW; rw [if_neg (by omega)]
end Go.Proofs.YtdldcofddfkkbaaGreat
