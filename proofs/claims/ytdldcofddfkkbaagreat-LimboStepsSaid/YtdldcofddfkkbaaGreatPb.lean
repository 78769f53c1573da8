/- Rows of numbers that follow each other; which were seen. -/
import Derived.Test.YtdldcofddfkkbaaGreatPa
import Derived.Test.YtdldcofddfkkbaaGreatCwV
namespace Go.Proofs.YtdldcofddfkkbaaGreat
set_option linter.unusedVariables false
set_option linter.unusedSimpArgs false
set_option linter.unusedSectionVars false
open Go

theorem runI_len (a : Int) : ∀ n, (runI a n).length = n
  | 0 => rfl
  | n + 1 => by rw [runI, List.length_append, runI_len a n]; rfl
theorem runP_len (a b : Int) : ∀ n, (runP a b n).length = 2 * n
  | 0 => rfl
  | n + 1 => by rw [runP, List.length_append, runP_len a b n]; simp; omega
theorem runI_pre (a : Int) : ∀ {m n : Nat}, m ≤ n → ∃ d, runI a n = runI a m ++ d
  | m, 0, h => ⟨[], by rw [Nat.le_zero.1 h]; rfl⟩
  | m, n + 1, h => by
    by_cases e : m = n + 1
    · exact ⟨[], by rw [e, List.append_nil]⟩
    · obtain ⟨d, hd⟩ := runI_pre a (m := m) (n := n) (by omega)
      exact ⟨d ++ [IntKind.i64.wrap (a + n)], by rw [runI, hd, List.append_assoc]⟩
/-- which were seen -/
def seenL (L : List Int) (n : Int) : List Int := (List.range n.toNat).map fun (x : Nat) => if (x : Int) ∈ L then 1 else 0
theorem seen_len (L : List Int) (n : Int) : (seenL L n).length = n.toNat := by simp [seenL]
theorem seen_nil (n : Int) : List.replicate n.toNat 0 = seenL [] n := by
  unfold seenL
  apply List.ext_getElem (by simp)
  intro i h1 h2
  simp
theorem seen_get {L : List Int} {n x : Int} (h0 : 0 ≤ x) (h1 : x < n) : (seenL L n)[x.toNat]?.getD 0 = if x ∈ L then 1 else 0 := by
  unfold seenL
  rw [List.getElem?_map, List.getElem?_range (by omega)]
  show (if ((x.toNat : Nat) : Int) ∈ L then (1 : Int) else 0) = _
  rw [Int.toNat_of_nonneg h0]
theorem seen_set {L : List Int} {n x : Int} (h0 : 0 ≤ x) (h1 : x < n) : (seenL L n).set x.toNat 1 = seenL (L ++ [x]) n := by
  apply List.ext_getElem (by simp [seen_len])
  intro i h2 h3
  rw [List.getElem_set]
  simp only [seenL, List.getElem_map, List.getElem_range, List.mem_append, List.mem_singleton]
  by_cases e : x.toNat = i
  · subst e
    rw [if_pos rfl, if_pos (.inr (Int.toNat_of_nonneg h0))]
  · rw [if_neg e]
    have : ¬ (i : Int) = x := by omega
    simp only [this, or_false]
theorem nodup_put {L : List Int} {x : Int} (h : L.Nodup) (hx : x ∉ L) : (L ++ [x]).Nodup := by
  rw [List.nodup_append]
  exact ⟨h, by simp, fun a ha b hb e => hx (by rw [List.mem_singleton.1 hb] at e; exact e ▸ ha)⟩
theorem not_nodup {L M : List Int} {x : Int} (hx : x ∈ L) (h : ∃ d, M = (L ++ [x]) ++ d) : ¬ M.Nodup := by
  obtain ⟨d, rfl⟩ := h
  intro g
  rw [List.nodup_append, List.nodup_append] at g
  exact g.1.2.2 _ hx _ (by simp) rfl
end Go.Proofs.YtdldcofddfkkbaaGreat
