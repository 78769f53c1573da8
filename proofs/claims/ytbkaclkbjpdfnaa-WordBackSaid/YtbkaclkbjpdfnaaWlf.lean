/- The walks of the statements of layer 1, the seventh part: WordBack. -/
import Derived.Test.YtbkaclkbjpdfnaaWlc
import Derived.Test.YtbkaclkbjpdfnaaWp
import Derived.Deep.DeepCutAuto
namespace Go.Proofs.Ytbkaclkbjpdfnaa
open Go.RowKit

theorem ref_round (i g : Int) (m : Bool) : isW (refW i g m) ∧ ∃ a b c, getRefV (refW i g m) = .agg #[.int .i64 a, .int .i64 b, .bool c] ∧ (refE i g ≠ 0 ∨ refE i g = 0 ∧ a = i ∧ b = g ∧ c = m ∧ getRefE (refW i g m) = 0) := by
  by_cases h : refE i g = 0
  · obtain ⟨h1, h2, h3, h4⟩ := ref_back i g m h
    have hk : getRefOk (refW i g m) = true := decide_eq_true (by rw [h2, h3, h4]; exact ⟨h, rfl⟩)
    obtain ⟨e1, e2⟩ := getRefV_yes hk
    exact ⟨h1, _, _, _, e1, .inr ⟨h, h2, h3, h4, e2⟩⟩
  · have h0 : refW i g m = 0 := by unfold refW; rw [if_neg h]
    obtain ⟨a, b, c, e⟩ := getRefV_form (refW i g m)
    exact ⟨by rw [h0]; unfold isW; omega, a, b, c, e, .inl h⟩
theorem slot_round (l : Int) (f : Bool) (v : Int) : isW (slotW l f v) ∧ ∃ a b c, getSlotV (slotW l f v) = .agg #[.int .i64 a, .bool b, .int .i64 c] ∧ (slotE l f v ≠ 0 ∨ slotE l f v = 0 ∧ a = l ∧ b = f ∧ c = v ∧ getSlotE (slotW l f v) = 0) := by
  by_cases h : slotE l f v = 0
  · obtain ⟨h1, h2, h3, h4⟩ := slot_back l f v h
    have hk : getSlotOk (slotW l f v) = true := decide_eq_true (by rw [h2, h3, h4]; exact ⟨h, rfl⟩)
    obtain ⟨e1, e2⟩ := getSlotV_yes hk
    exact ⟨h1, _, _, _, e1, .inr ⟨h, h2, h3, h4, e2⟩⟩
  · have h0 : slotW l f v = 0 := by unfold slotW; rw [if_neg h]
    obtain ⟨a, b, c, e⟩ := getSlotV_form (slotW l f v)
    exact ⟨by rw [h0]; unfold isW; omega, a, b, c, e, .inl h⟩
theorem top_round (i t : Int) : isW (topwW i t) ∧ (topE i t ≠ 0 ∨ topE i t = 0 ∧ partW (topwW i t) 0 16 - 1 = i ∧ partW (topwW i t) 16 48 = t) := by
  by_cases h : topE i t = 0
  · obtain ⟨h1, h2, h3⟩ := top_back i t h
    exact ⟨h1, .inr ⟨h, h2, h3⟩⟩
  · have h0 : topwW i t = 0 := by unfold topwW; rw [if_neg h]
    exact ⟨by rw [h0]; unfold isW; omega, .inl h⟩
/-- two refs have one word just if they are one -/
theorem ref_inj (i g : Int) (m : Bool) (i2 g2 : Int) (m2 : Bool) (h : refE i g = 0) (h2 : refE i2 g2 = 0) (e : refW i g m = refW i2 g2 m2) : i = i2 ∧ g = g2 ∧ m = m2 := by
  obtain ⟨_, a, b, c⟩ := ref_back i g m h
  obtain ⟨_, a2, b2, c2⟩ := ref_back i2 g2 m2 h2
  rw [e] at a b c
  exact ⟨a.symm.trans a2, b.symm.trans b2, c.symm.trans c2⟩
theorem slot_inj (i : Int) (m : Bool) (g : Int) (i2 : Int) (m2 : Bool) (g2 : Int) (h : slotE i m g = 0) (h2 : slotE i2 m2 g2 = 0) (e : slotW i m g = slotW i2 m2 g2) : i = i2 ∧ m = m2 ∧ g = g2 := by
  obtain ⟨_, a, b, c⟩ := slot_back i m g h
  obtain ⟨_, a2, b2, c2⟩ := slot_back i2 m2 g2 h2
  rw [e] at a b c
  exact ⟨a.symm.trans a2, b.symm.trans b2, c.symm.trans c2⟩
theorem top_inj (i g : Int) (i2 g2 : Int) (h : topE i g = 0) (h2 : topE i2 g2 = 0) (e : topwW i g = topwW i2 g2) : i = i2 ∧ g = g2 := by
  obtain ⟨_, a, b⟩ := top_back i g h
  obtain ⟨_, a2, b2⟩ := top_back i2 g2 h2
  rw [e] at a b
  exact ⟨a.symm.trans a2, b.symm.trans b2⟩
end Go.Proofs.Ytbkaclkbjpdfnaa
