/- The plain laws of words, the second part: what is put is got as it was. No program is named here. -/
import Derived.Test.YtbkaclkbjpdfnaaWm
namespace Go.Proofs.Ytbkaclkbjpdfnaa
open Go.RowKit

theorem getRefV_form (x : Int) : ∃ a b c, getRefV x = .agg #[.int .i64 a, .int .i64 b, .bool c] := by unfold getRefV; split <;> exact ⟨_, _, _, rfl⟩
theorem getSlotV_form (x : Int) : ∃ a c b, getSlotV x = .agg #[.int .i64 a, .bool c, .int .i64 b] := by unfold getSlotV; split <;> exact ⟨_, _, _, rfl⟩
theorem getKeyV_form (x : Int) : ∃ a b c, getKeyV x = .agg #[.int .i64 a, .int .i64 b, .int .i64 c] := by unfold getKeyV; split <;> exact ⟨_, _, _, rfl⟩
theorem wf_isW {x : Int} (h : (Lit.int .u64 x).wf = true) : isW x := by
  have h1 : IntKind.u64.min ≤ x ∧ x ≤ IntKind.u64.max := by simpa [Lit.wf] using h
  have e1 : IntKind.u64.min = 0 := by decide
  have e2 : IntKind.u64.max = 18446744073709551615 := by decide
  rw [e1, e2] at h1; unfold isW; omega


theorem p016 (x : Int) : partW x 0 16 = x % 65536 := by
  unfold partW
  rw [show ((0 : Int)).toNat = 0 from rfl, show ((16 : Int)).toNat = 16 from rfl]; omega
theorem p1632 (x : Int) : partW x 16 32 = x / 65536 % 4294967296 := by
  unfold partW
  rw [show ((16 : Int)).toNat = 16 from rfl, show ((32 : Int)).toNat = 32 from rfl]; omega
theorem p1648 (x : Int) : partW x 16 48 = x / 65536 % 281474976710656 := by
  unfold partW
  rw [show ((16 : Int)).toNat = 16 from rfl, show ((48 : Int)).toNat = 48 from rfl]; omega
theorem p3232 (x : Int) : partW x 32 32 = x / 4294967296 % 4294967296 := by
  unfold partW
  rw [show ((32 : Int)).toNat = 32 from rfl]; omega
theorem p161 (x : Int) : partW x 16 1 = x / 65536 % 2 := by
  unfold partW
  rw [show ((16 : Int)).toNat = 16 from rfl, show ((1 : Int)).toNat = 1 from rfl]; omega
theorem p568 (x : Int) : partW x 56 8 = x / 72057594037927936 % 256 := by
  unfold partW
  rw [show ((56 : Int)).toNat = 56 from rfl, show ((8 : Int)).toNat = 8 from rfl]; omega
theorem p1640 (x : Int) : partW x 16 40 = x / 65536 % 1099511627776 := by
  unfold partW
  rw [show ((16 : Int)).toNat = 16 from rfl, show ((40 : Int)).toNat = 40 from rfl]; omega

theorem refW_eq (i g : Int) (m : Bool) (h : refE i g = 0) : -1 ≤ i ∧ i ≤ 65534 ∧ 0 ≤ g ∧ g ≤ 4294967295 ∧ (i = -1 → g = 0) ∧ refW i g m = i + 1 + 65536 * g + topW m := by
  have h0 : ¬ (i < -1 ∨ 65534 < i ∨ g < 0 ∨ 4294967295 < g) := by
    intro hc; unfold refE at h; rw [if_pos hc] at h; omega
  have h1 : ¬ (i = -1 ∧ g ≠ 0) := by
    intro hc; unfold refE at h; rw [if_neg h0, if_pos hc] at h; omega
  refine ⟨by omega, by omega, by omega, by omega, by omega, ?_⟩
  unfold refW; rw [if_pos h]
theorem ref_back (i g : Int) (m : Bool) (h : refE i g = 0) : isW (refW i g m) ∧ getRefI (refW i g m) = i ∧ getRefG (refW i g m) = g ∧ markedW (refW i g m) = m := by
  obtain ⟨a, b, c, d, e, f⟩ := refW_eq i g m h
  unfold isW getRefI getRefG markedW
  rw [p016, p1632, f]
  unfold topW
  cases m
  · refine ⟨by simp; omega, by simp; omega, by simp; omega, by simp; omega⟩
  · refine ⟨by simp; omega, by simp; omega, by simp; omega, by simp; omega⟩
theorem slotW_eq (l : Int) (f : Bool) (v : Int) (h : slotE l f v = 0) : 0 ≤ l ∧ l ≤ 4294967295 ∧ 0 ≤ v ∧ v ≤ 65535 ∧ (f = false → v = 0) ∧ slotW l f v = v + (if f then 65536 else 0) + 4294967296 * l := by
  have h0 : ¬ (l < 0 ∨ 4294967295 < l ∨ v < 0 ∨ 65535 < v) := by
    intro hc; unfold slotE at h; rw [if_pos hc] at h; omega
  have h1 : ¬ (f = false ∧ v ≠ 0) := by
    intro hc; unfold slotE at h; rw [if_neg h0, if_pos hc] at h; omega
  refine ⟨by omega, by omega, by omega, by omega, fun hf => Decidable.byContradiction fun hv => h1 ⟨hf, hv⟩, ?_⟩
  unfold slotW; rw [if_pos h]
theorem slot_back (l : Int) (f : Bool) (v : Int) (h : slotE l f v = 0) : isW (slotW l f v) ∧ partW (slotW l f v) 32 32 = l ∧ (partW (slotW l f v) 16 1 == 1) = f ∧ partW (slotW l f v) 0 16 = v := by
  obtain ⟨a, b, c, d, e, g⟩ := slotW_eq l f v h
  unfold isW
  rw [p016, p3232, p161, g]
  cases f
  · refine ⟨by simp; omega, by simp; omega, by simp; omega, by simp; omega⟩
  · refine ⟨by simp; omega, by simp; omega, by simp; omega, by simp; omega⟩
theorem topW_eq (i t : Int) (h : topE i t = 0) : -1 ≤ i ∧ i ≤ 65534 ∧ 0 ≤ t ∧ t ≤ 281474976710655 ∧ topwW i t = i + 1 + 65536 * t := by
  have h0 : ¬ (i < -1 ∨ 65534 < i ∨ t < 0 ∨ 281474976710655 < t) := by
    intro hc; unfold topE at h; rw [if_pos hc] at h; omega
  refine ⟨by omega, by omega, by omega, by omega, ?_⟩
  unfold topwW; rw [if_pos h]
theorem top_back (i t : Int) (h : topE i t = 0) : isW (topwW i t) ∧ partW (topwW i t) 0 16 - 1 = i ∧ partW (topwW i t) 16 48 = t := by
  obtain ⟨a, b, c, d, g⟩ := topW_eq i t h
  unfold isW
  rw [p016, p1648, g]
  omega
/-- what a top's word is got as is put as that word -/
theorem top_one (x : Int) (h : isW x) : topE (partW x 0 16 - 1) (partW x 16 48) = 0 ∧ topwW (partW x 0 16 - 1) (partW x 16 48) = x := by
  obtain ⟨h1, h2⟩ := h
  have hE : topE (partW x 0 16 - 1) (partW x 16 48) = 0 := by rw [p016, p1648]; unfold topE; rw [if_neg (by omega)]
  obtain ⟨a, b, c, d, g⟩ := topW_eq _ _ hE
  refine ⟨hE, ?_⟩
  rw [g, p016, p1648]; omega
theorem key_one (x : Int) (h : isW x) (hk : getKeyOk x = true) : keyE (partW x 56 8) (partW x 16 40) (partW x 0 16) = 0 ∧ keyW (partW x 56 8) (partW x 16 40) (partW x 0 16) = x := by
  obtain ⟨h1, h2⟩ := h
  unfold getKeyOk at hk
  have hk := of_decide_eq_true hk
  rw [p568] at hk
  have hE : keyE (partW x 56 8) (partW x 16 40) (partW x 0 16) = 0 := by rw [p016, p568, p1640]; unfold keyE; rw [if_neg (by omega)]
  refine ⟨hE, ?_⟩
  unfold keyW; rw [if_pos hE, p016, p568, p1640]; omega
theorem marks_facts (x : Int) (h : isW x) : markedW (marksW x true) = true ∧ markedW (marksW x false) = false ∧ marksW (marksW x true) (markedW x) = x := by
  obtain ⟨h1, h2⟩ := h
  unfold markedW marksW lowW topW
  refine ⟨by simp; omega, by simp; omega, ?_⟩
  by_cases hm : x / 9223372036854775808 = 1
  · simp [hm]; omega
  · simp [hm]; omega
/-- the mark of a ref's word is turned -/
theorem ref_turn (i g : Int) (m : Bool) (h : refE i g = 0) : refW i g (!m) = marksW (refW i g m) (!m) := by
  obtain ⟨a, b, c, d, e, f⟩ := refW_eq i g m h
  obtain ⟨_, _, _, _, _, f'⟩ := refW_eq i g (!m) h
  rw [f, f']
  unfold marksW lowW topW
  cases m <;> simp <;> omega
end Go.Proofs.Ytbkaclkbjpdfnaa
