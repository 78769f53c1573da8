/- Texts of this proof. -/
import Derived.ProofKit
import Derived.OpenShut
import Derived.ChangeOld
import Derived.Lib.SmallJoins
import Derived.Deep.Slices
import Derived.Deep.Fields
namespace Go.Proofs.YtdldcofddfkkbaaGreat
set_option linter.unusedVariables false
set_option linter.unusedSimpArgs false
set_option linter.unusedSectionVars false
open Go Go.ChangeShapes Go.WideShapes Go.ChangeAt Go.RowKit Go.Joins Go.Deep
def intCell (P : Program) : Nat → TypeId → Nat → Bool
 | 0, _, _ => false
 | n + 1, t, j =>
   match P.underlying t with
   | some (.int k) => decide (k = .i64) && decide (j = 0)
   | some (.struct fs) => fs.toList.any fun f => decide (f.offset ≤ j) && (decide (j < f.offset + P.cellsOf f.type) && intCell P n f.type (j - f.offset))
   | _ => false
section
variable {H : Type} {enc : TypeId × Value → H} {P : Program} {w : World} {base : Nat} {spare : Nat → Bool} {held : Bool}
theorem intCell_spec : ∀ (m : Nat) (t : TypeId) (j : Nat), intCell P m t j = true → ∀ (fuel : Nat) (cs : List Value) (x : DataW H × List MemPlace), DataW.trod enc P w base spare held fuel t cs = some x → j < cs.length → ∃ n, cs[j]? = some (.int .i64 n)
 | 0, _, _, h, _, _, _, _, _ => by cases h
 | m + 1, t, j, h, fuel, cs, x, hx, hj => by
   unfold intCell at h
   split at h
   · rename_i k hu
     simp only [Bool.and_eq_true, decide_eq_true_eq] at h
     obtain ⟨rfl, rfl⟩ := h
     obtain ⟨n, rfl, _⟩ := DataW.trod_int hu hx
     exact ⟨n, rfl⟩
   · rename_i fs hu
     rw [List.any_eq_true] at h
     obtain ⟨f, hf, h⟩ := h
     simp only [Bool.and_eq_true, decide_eq_true_eq] at h
     obtain ⟨h1, h2, h3⟩ := h
     obtain ⟨xs, n, _, rfl, hl, hlen, hall⟩ := DataW.trod_struct hu hx
     obtain ⟨i, hi⟩ := List.getElem?_of_mem hf
     have hi' : fs[i]? = some f := by simpa using hi
     have hlt : i < fs.size := (Array.getElem?_eq_some_iff.1 hi').1
     have h4 := hall i f hi'
     rw [List.getElem?_eq_getElem (by omega)] at h4
     obtain ⟨a, ha⟩ := intCell_spec m f.type (j - f.offset) h3 n _ _ h4 (by simp; omega)
     refine ⟨a, ?_⟩
     rw [List.getElem?_take, if_pos (by omega), List.getElem?_drop] at ha
     rw [← ha]
     congr 1
     omega
   · cases h
theorem open_ints {r : Reach} {b0 m : Nat} {t : TypeId} {fs : Array Field} {v : Value} {d : DataW H} {p : List MemPlace} (hs : P.underlying t = some (.struct fs)) (hC : P.cellsOf t = m) (hall : (List.range m).all (intCell P 8 t) = true)
 (hv : Value.okWide P w r b0 t v) (h : DataW.Trod enc P w base spare held t v d p) : ∃ as : List Int, as.length = m ∧ v = .agg (as.map (Value.int .i64)).toArray := by
 obtain ⟨cs, rfl, hsz⟩ := okWide_struct hs hv
 obtain ⟨fuel, hf⟩ := h
 have hsz' : cs.size = m := hsz.trans hC
 have key : ∀ j, j < m → ∃ n, cs.toList[j]? = some (.int .i64 n) := fun j hj => by
  rw [List.all_eq_true] at hall
  exact intCell_spec 8 t j (hall j (by simpa using hj)) fuel _ _ hf (by simpa [Value.cells, hsz'] using hj)
 obtain ⟨l⟩ := cs
 simp only [List.size_toArray] at hsz'
 clear hf hs hsz hall hv
 suffices ∃ as : List Int, as.length = m ∧ l = as.map (Value.int .i64) by
  obtain ⟨as, h1, rfl⟩ := this
  exact ⟨as, h1, rfl⟩
 refine ⟨l.map fun c => match c with | .int _ n => n | _ => 0, by simp [hsz'], ?_⟩
 rw [List.map_map]
 apply List.ext_getElem?
 intro j
 by_cases hj : j < m
 · obtain ⟨n, hn⟩ := key j hj
   simp only at hn
   rw [List.getElem?_map, hn]
   rfl
 · rw [List.getElem?_eq_none (by omega), List.getElem?_eq_none (by simp; omega)]
theorem ints13 {as : List Int} (h : as.length = 13) : ∃ a0 a1 a2 a3 a4 a5 a6 a7 a8 a9 a10 a11 a12, as = [a0, a1, a2, a3, a4, a5, a6, a7, a8, a9, a10, a11, a12] := by
 match as, h with
 | [a0, a1, a2, a3, a4, a5, a6, a7, a8, a9, a10, a11, a12], _ => exact ⟨_, _, _, _, _, _, _, _, _, _, _, _, _, rfl⟩
end
end Go.Proofs.YtdldcofddfkkbaaGreat
